/- What is gone through ahead of a law: texts, variables, expressions, statements. What is answered; nothing is written. -/
import Derived.Test.YtejifefgmlpclaaGreatTabA
import Derived.WalkSpells
import Derived.WalkLawsBesides
import Derived.LoopTactic
import Derived.OwnWalk
import Derived.Deep.QuietTactic
import Derived.BigQuiet
import Derived.Deep.Cut
import Derived.Test.YtejifefgmlpclaaGreatProg
import Derived.Test.YtejifefgmlpclaaGreatAid
import Derived.WalkKit
set_option linter.unusedSimpArgs false
set_option linter.unusedVariables false
namespace Go.Proofs.YtejifefgmlpclaaGreat
open Go.RowKit

theorem Rows.vd_ {w : World} {B : Nat} {A : Option Addr} {ps : List Vd} (h : Rows w B 8 A (ps.map Vd.cells)) (hn : 0 < ps.length) :
    ∃ b off, A = some ⟨b, off, none⟩ ∧ b < B ∧ ∀ (i : Nat) (v : Vd), ps[i]? = some v → ∀ j x, v.cells[j]? = some x → w.cell? ⟨b, off + i * 8 + j, none⟩ = some x := by
  obtain ⟨b, off, h1, h2, h3⟩ := h (by simpa using hn)
  exact ⟨b, off, h1, h2, fun i v hv j x hx => h3 i v.cells (by simp [hv]) j x hx⟩

/-- Are these texts more than is gone through? -/
def textsGo (m l : Int) : List ByteArray → Bool
  | [] => false
  | s :: r => decide (l < (s.size : Int)) || textsGo m l r
def Gr.texts (fs : List ByteArray) (m l : Int) : Bool := if (fs.length : Int) ≤ m then textsGo m l fs else true
set_option maxRecDepth 100000 in
set_option maxHeartbeats 1000000 in
theorem greatTexts_is (A : Option Addr) (B cap : Nat) (fs : List ByteArray) (m l : Int) (r : Bool) (w : World) (hr : Gr.texts fs m l = r) (h : Rows w B 1 A (fs.map fun s => [Value.string s])) (hl : fs.length ≤ 9223372036854775807) :
    Calls Tryz.prog 10 #[.slice A fs.length cap, .int .i64 m, .int .i64 l] w fun e w' => e = .returned (.bool r) ∧ w = w' := by
  have H := Aid.hid h
  clear h
  by_cases hm : (fs.length : Int) ≤ m
  · have HR : Hid (textsGo m l fs = r) := Aid.hid (by unfold Gr.texts at hr; rwa [if_pos hm] at hr)
    clear hr
    go_enter Tryz.func10, Tryz.ntmps10
    try simp only [List.append_eq, List.cons_append, List.nil_append]
    go_wp2_with fail
    go_loopw [7] (fun i wr => ∃ k : Nat, i = .int .i64 k ∧ k ≤ fs.length ∧ Hid (textsGo m l (fs.drop k) = r) ∧ wr = w) (fun i _ => fs.length - (intOf i).toNat)
    case atStart => exact ⟨0, rfl, Nat.zero_le _, HR, rfl⟩
    case round =>
      obtain ⟨k, rfl, hk, HK, rfl⟩ := hrel
      by_cases hlt : k < fs.length
      · obtain ⟨b, off, rfl, _, hc⟩ := H.out (by simpa using Nat.lt_of_le_of_lt (Nat.zero_le _) hlt)
        obtain ⟨s, hs⟩ : ∃ s, fs[k]? = some s := ⟨_, List.getElem?_eq_getElem hlt⟩
        have c0 := hc k [.string s] (by simp [hs]) 0 _ rfl
        simp only [Nat.mul_one, Nat.add_zero] at c0
        have hd : fs.drop k = s :: fs.drop (k + 1) := by
          obtain ⟨h1, h2⟩ := List.getElem?_eq_some_iff.1 hs
          rw [← h2, List.getElem_cons_drop h1]
        have HD : Hid ((decide (l < (s.size : Int)) || textsGo m l (fs.drop (k + 1))) = r) := Aid.hid (by have := HK.out; rw [hd] at this; exact this)
        clear hc hs hd HK
        by_cases hq : l < (s.size : Int)
        · obtain rfl : true = r := by have := HD.out; simpa [hq] using this
          go_wp2_with fail
          go_ret
          exact ⟨rfl, rfl⟩
        · have hq2 : decide (l < (s.size : Int)) = false := by simpa using hq
          have HE : Hid (textsGo m l (fs.drop (k + 1)) = r) := Aid.hid (by have := HD.out; rwa [hq2, Bool.false_or] at this)
          go_wp2_with fail
          go_roundw
          case rel => exact ⟨k + 1, by go_num, by omega, HE, trivial⟩
          case measure => simp [intOf]; omega
      · obtain rfl : false = r := by have := HK.out; rwa [List.drop_eq_nil_of_le (by omega)] at this
        have hm2 : decide (m < (fs.length : Int)) = false := by simpa using hm
        go_wp2_with fail
        go_ret
        exact ⟨rfl, rfl⟩
  · obtain rfl : true = r := by unfold Gr.texts at hr; rwa [if_neg hm] at hr
    have hm2 : decide ((fs.length : Int) ≤ m) = false := by simpa using hm
    have hm3 : m < (fs.length : Int) := by omega
    go_enter Tryz.func10, Tryz.ntmps10
    try simp only [List.append_eq, List.cons_append, List.nil_append]
    go_wp2_with fail
    refine wp_loop_rounds 1 ?_
    rw [rounds_succ]
    by_cases h0 : 0 < fs.length
    · go_wp2_with fail
      go_ret
      exact ⟨rfl, rfl⟩
    · go_wp2_with fail
      go_ret
      exact ⟨rfl, rfl⟩
def varsGo (m : Int) : List Vd → Bool
  | [] => false
  | v :: r => decide (60 < (v.name.size : Int)) || (decide (60 < (v.ty.name.size : Int)) || varsGo m r)
def Gr.vars (ps : List Vd) (m : Int) : Int := if (ps.length : Int) ≤ m ∧ varsGo m ps = true then wrap64 (m + 1) else ps.length
set_option maxRecDepth 100000 in
set_option maxHeartbeats 1000000 in
theorem vars_is (A : Option Addr) (B cap : Nat) (ps : List Vd) (m r : Int) (w : World) (hr : Gr.vars ps m = r) (h : Rows w B 8 A (ps.map Vd.cells)) (hl : ps.length ≤ 9223372036854775807) :
    Calls Tryz.prog 11 #[.slice A ps.length cap, .int .i64 m] w fun e w' => e = .returned (.int .i64 r) ∧ w = w' := by
  have H := Aid.hid h
  clear h
  by_cases hm : (ps.length : Int) ≤ m
  · have HR : Hid ((if varsGo m ps = true then wrap64 (m + 1) else (ps.length : Int)) = r) := Aid.hid (by unfold Gr.vars at hr; simpa [hm] using hr)
    clear hr
    go_enter Tryz.func11, Tryz.ntmps11
    try simp only [List.append_eq, List.cons_append, List.nil_append]
    go_wp2_with fail
    go_loopw [5] (fun i wr => ∃ k : Nat, i = .int .i64 k ∧ k ≤ ps.length ∧ Hid ((if varsGo m (ps.drop k) = true then wrap64 (m + 1) else (ps.length : Int)) = r) ∧ wr = w) (fun i _ => ps.length - (intOf i).toNat)
    case atStart => exact ⟨0, rfl, Nat.zero_le _, HR, rfl⟩
    case round =>
      obtain ⟨k, rfl, hk, HK, rfl⟩ := hrel
      by_cases hlt : k < ps.length
      · obtain ⟨b, off, rfl, _, hc⟩ := Rows.vd_ H.out (by omega)
        obtain ⟨v, hv⟩ : ∃ v, ps[k]? = some v := ⟨_, List.getElem?_eq_getElem hlt⟩
        have c0 := hc k v hv 0 _ rfl
        have c4 := hc k v hv 4 _ rfl
        simp only [Nat.add_zero] at c0
        have hd : ps.drop k = v :: ps.drop (k + 1) := by
          obtain ⟨h1, h2⟩ := List.getElem?_eq_some_iff.1 hv
          rw [← h2, List.getElem_cons_drop h1]
        have HD : Hid ((if (decide (60 < (v.name.size : Int)) || (decide (60 < (v.ty.name.size : Int)) || varsGo m (ps.drop (k + 1)))) = true then wrap64 (m + 1) else (ps.length : Int)) = r) := Aid.hid (by have := HK.out; rw [hd] at this; exact this)
        clear hc hv hd HK
        by_cases h1 : (60 : Int) < (v.name.size : Int)
        · obtain rfl : wrap64 (m + 1) = r := by have := HD.out; simpa [h1] using this
          go_wp2_with fail
          go_ret
          exact ⟨rfl, rfl⟩
        · have h1b : decide ((60 : Int) < (v.name.size : Int)) = false := by simpa using h1
          by_cases h2 : (60 : Int) < (v.ty.name.size : Int)
          · obtain rfl : wrap64 (m + 1) = r := by have := HD.out; simpa [h2] using this
            go_wp2_with fail
            go_ret
            exact ⟨rfl, rfl⟩
          · have h2b : decide ((60 : Int) < (v.ty.name.size : Int)) = false := by simpa using h2
            have HE : Hid ((if varsGo m (ps.drop (k + 1)) = true then wrap64 (m + 1) else (ps.length : Int)) = r) := Aid.hid (by have := HD.out; rwa [h1b, h2b, Bool.false_or, Bool.false_or] at this)
            go_wp2_with fail
            go_roundw
            case rel => exact ⟨k + 1, by go_num, by omega, HE, trivial⟩
            case measure => simp [intOf]; omega
      · obtain rfl : (ps.length : Int) = r := by have := HK.out; rw [List.drop_eq_nil_of_le (by omega)] at this; simpa [varsGo] using this
        go_wp2_with fail
        go_ret
        exact ⟨rfl, rfl⟩
  · obtain rfl : (ps.length : Int) = r := by unfold Gr.vars at hr; rwa [if_neg (fun h => hm h.1)] at hr
    have hm2 : decide ((ps.length : Int) ≤ m) = false := by simpa using hm
    go_enter Tryz.func11, Tryz.ntmps11
    try simp only [List.append_eq, List.cons_append, List.nil_append]
    go_wp2_with fail
    refine wp_loop_rounds 1 ?_
    rw [rounds_succ]
    by_cases h0 : 0 < ps.length
    · go_wp2_with fail
      go_ret
      exact ⟨rfl, rfl⟩
    · go_wp2_with fail
      go_ret
      exact ⟨rfl, rfl⟩
def exprsGo : List Ex → Int → Int → Int
  | [], _, n => n
  | .mk _ _ nm wh _ args _ :: r, m, n => if n ≤ m then (if 60 < nm.size ∨ 60 < wh.size then wrap64 (m + 1) else exprsGo r m (wrap64 (wrap64 (n + 1) + exprsGo args (wrap64 (m - n)) 0))) else n
def labelsGo (m : Int) : List Lb → Int → Int
  | [], n => n
  | x :: r, n => if n ≤ m then labelsGo m r (wrap64 (wrap64 (n + 1) + x.xs.length)) else n
mutual
def stmtsGo : List St → Int → Int → Int
  | [], _, n => n
  | .mk _ _ nm _ es _ _ ls _ _ bs _ :: r, m, n => if n ≤ m then (if 60 < nm.size then wrap64 (m + 1) else stmtsGo r m (blocksGo bs m (labelsGo m ls (wrap64 (wrap64 (n + 1) + exprsGo es (wrap64 (m - n)) 0))))) else n
def blocksGo : List Bk → Int → Int → Int
  | [], _, n => n
  | .mk _ l _ :: r, m, n => if n ≤ m then blocksGo r m (wrap64 (wrap64 (n + 1) + stmtsGo l (wrap64 (m - n)) 0)) else n
end
theorem exprsGo_cons (e : Ex) (r : List Ex) (m n : Int) : exprsGo (e :: r) m n = if n ≤ m then (if 60 < e.name.size ∨ 60 < e.what.size then wrap64 (m + 1) else exprsGo r m (wrap64 (wrap64 (n + 1) + exprsGo e.args (wrap64 (m - n)) 0))) else n := by
  cases e; rw [exprsGo]; rfl
theorem stmtsGo_cons (s : St) (r : List St) (m n : Int) : stmtsGo (s :: r) m n = if n ≤ m then (if 60 < s.name.size then wrap64 (m + 1) else stmtsGo r m (blocksGo s.bs m (labelsGo m s.ls (wrap64 (wrap64 (n + 1) + exprsGo s.es (wrap64 (m - n)) 0))))) else n := by
  cases s; rw [stmtsGo]; rfl
theorem blocksGo_cons (b : Bk) (r : List Bk) (m n : Int) : blocksGo (b :: r) m n = if n ≤ m then blocksGo r m (wrap64 (wrap64 (n + 1) + stmtsGo b.l (wrap64 (m - n)) 0)) else n := by
  cases b; rw [blocksGo]; rfl
theorem stmtsGo_nil (m n : Int) : stmtsGo [] m n = n := by rw [stmtsGo]
theorem blocksGo_nil (m n : Int) : blocksGo [] m n = n := by rw [blocksGo]
theorem exprsGo_nil (m n : Int) : exprsGo [] m n = n := by rw [exprsGo]
theorem drop_cons {α : Type} {l : List α} {k : Nat} {x : α} (h : l[k]? = some x) : l.drop k = x :: l.drop (k + 1) := by
  obtain ⟨h1, h2⟩ := List.getElem?_eq_some_iff.1 h
  rw [← h2, List.getElem_cons_drop h1]

set_option maxRecDepth 100000 in
set_option maxHeartbeats 2000000 in
theorem exprs_is : ∀ (f : Nat) (A : Option Addr) (B cap : Nat) (l : List Ex) (m r : Int) (w : World), exprsGo l m 0 = r → ExsAt f w B A l →
    Calls Tryz.prog 19 #[.slice A l.length cap, .int .i64 m] w fun e w' => e = .returned (.int .i64 r) ∧ w = w' := by
  intro f
  induction f with
  | zero =>
    intro A B cap l m r w hr h
    obtain rfl : l = [] := h
    obtain rfl : 0 = r := by rw [← hr, exprsGo_nil]
    clear hr
    go_enter Tryz.func19, Tryz.ntmps19
    try simp only [List.append_eq, List.cons_append, List.nil_append]
    go_wp2_with fail
    go_loopw [5, 6] (fun vn vi wr => vn = .int .i64 0 ∧ vi = .int .i64 0 ∧ wr = w) (fun _ _ _ => 0)
    case atStart => exact ⟨rfl, rfl, rfl⟩
    case round =>
      obtain ⟨rfl, rfl, rfl⟩ := hrel
      go_wp2_with fail
      go_ret
      exact ⟨rfl, rfl⟩
  | succ f ih =>
    intro A B cap l m r w hr h
    obtain ⟨hn, h1, h2⟩ := h
    have H := Aid.hid h1
    have HS := Aid.hid h2
    have IH := Aid.hid ih
    have HR := Aid.hid hr
    clear h1 h2 ih hr
    go_enter Tryz.func19, Tryz.ntmps19
    try simp only [List.append_eq, List.cons_append, List.nil_append]
    go_wp2_with fail
    go_loopw [5, 6] (fun vn vi wr => ∃ (k : Nat) (s : Int), vn = .int .i64 s ∧ vi = .int .i64 k ∧ k ≤ l.length ∧ Hid (exprsGo (l.drop k) m s = r) ∧ wr = w) (fun _ vi _ => l.length - (intOf vi).toNat)
    case atStart => exact ⟨0, 0, rfl, rfl, Nat.zero_le _, HR, rfl⟩
    case round =>
      obtain ⟨k, s, rfl, rfl, hk, HK, rfl⟩ := hrel
      by_cases hlt : k < l.length
      · obtain ⟨b, off, rfl, _, hc⟩ := H.out (by simpa using Nat.lt_of_le_of_lt (Nat.zero_le _) hlt)
        obtain ⟨e, he⟩ : ∃ e, l[k]? = some e := ⟨_, List.getElem?_eq_getElem hlt⟩
        have hce := hc k e.cells (by simp [he])
        have q2 := hce 2 _ rfl
        have q3 := hce 3 _ rfl
        have q4 := hce 4 _ rfl
        have HD : Hid ((if s ≤ m then (if 60 < e.name.size ∨ 60 < e.what.size then wrap64 (m + 1) else exprsGo (l.drop (k + 1)) m (wrap64 (wrap64 (s + 1) + exprsGo e.args (wrap64 (m - s)) 0))) else s) = r) := Aid.hid (by rw [← exprsGo_cons, ← drop_cons he]; exact HK.out)
        have HA := Aid.hid (HS.out e (List.mem_of_getElem? he))
        clear hc he hce HK
        by_cases hm : s ≤ m
        · by_cases h1 : (60 : Int) < (e.name.size : Int)
          · obtain rfl : wrap64 (m + 1) = r := by have := HD.out; rwa [if_pos hm, if_pos (Or.inl (by omega))] at this
            go_wp2_with fail
            go_ret
            exact ⟨rfl, rfl⟩
          · have h1b : decide ((60 : Int) < (e.name.size : Int)) = false := by simpa using h1
            by_cases h2 : (60 : Int) < (e.what.size : Int)
            · obtain rfl : wrap64 (m + 1) = r := by have := HD.out; rwa [if_pos hm, if_pos (Or.inr (by omega))] at this
              go_wp2_with fail
              go_ret
              exact ⟨rfl, rfl⟩
            · have h2b : decide ((60 : Int) < (e.what.size : Int)) = false := by simpa using h2
              have HE : Hid (exprsGo (l.drop (k + 1)) m (wrap64 (wrap64 (s + 1) + exprsGo e.args (wrap64 (m - s)) 0)) = r) := Aid.hid (by have := HD.out; rwa [if_pos hm, if_neg (by omega)] at this)
              go_wp2_with fail
              refine (IH.out e.A B e.c e.args _ _ _ rfl HA.out).mono ?_; rintro e' w' ⟨rfl, rfl⟩
              generalize exprsGo e.args (wrap64 (m - s)) 0 = q at HE ⊢
              go_wp2_with fail
              go_roundw
              case rel => exact ⟨k + 1, _, rfl, by go_num, by omega, HE, trivial⟩
              case measure => simp [intOf]; omega
        · obtain rfl : s = r := by have := HD.out; rwa [if_neg hm] at this
          have hm2 : decide (s ≤ m) = false := by simpa using hm
          go_wp2_with fail
          go_ret
          exact ⟨rfl, rfl⟩
      · obtain rfl : s = r := by have := HK.out; rwa [List.drop_eq_nil_of_le (by omega), exprsGo_nil] at this
        go_wp2_with fail
        go_ret
        exact ⟨rfl, rfl⟩
end Go.Proofs.YtejifefgmlpclaaGreat
/- Statements, gone through: how many parts. -/
namespace Go.Proofs.YtejifefgmlpclaaGreat
open Go.RowKit

theorem labelsGo_cons (m : Int) (x : Lb) (r : List Lb) (n : Int) : labelsGo m (x :: r) n = if n ≤ m then labelsGo m r (wrap64 (wrap64 (n + 1) + x.xs.length)) else n := rfl
set_option maxRecDepth 100000 in
set_option maxHeartbeats 8000000 in
theorem stmts_is : ∀ (f : Nat) (A : Option Addr) (B cap : Nat) (l : List St) (m r : Int) (w : World), stmtsGo l m 0 = r → StsAt f w B A l →
    Calls Tryz.prog 12 #[.slice A l.length cap, .int .i64 m] w fun e w' => e = .returned (.int .i64 r) ∧ w = w' := by
  intro f
  induction f with
  | zero =>
    intro A B cap l m r w hr h
    obtain rfl : l = [] := h
    obtain rfl : 0 = r := by rw [← hr, stmtsGo_nil]
    clear hr
    go_enter Tryz.func12, Tryz.ntmps12
    try simp only [List.append_eq, List.cons_append, List.nil_append]
    go_wp2_with fail
    go_loopw [5, 6] (fun vn vi wr => vn = .int .i64 0 ∧ vi = .int .i64 0 ∧ wr = w) (fun _ _ _ => 0)
    case atStart => exact ⟨rfl, rfl, rfl⟩
    case round =>
      obtain ⟨rfl, rfl, rfl⟩ := hrel
      go_wp2_with fail
      go_ret
      exact ⟨rfl, rfl⟩
  | succ f ih =>
    intro A B cap l m r w hr h
    obtain ⟨hn, h1, h2⟩ := h
    have H := Aid.hid h1
    have HS := Aid.hid h2
    have IH := Aid.hid ih
    have HR := Aid.hid hr
    clear h1 h2 ih hr
    go_enter Tryz.func12, Tryz.ntmps12
    try simp only [List.append_eq, List.cons_append, List.nil_append]
    go_wp2_with fail
    go_loopw [5, 6] (fun vn vi wr => ∃ (k : Nat) (s : Int), vn = .int .i64 s ∧ vi = .int .i64 k ∧ k ≤ l.length ∧ Hid (stmtsGo (l.drop k) m s = r) ∧ wr = w) (fun _ vi _ => l.length - (intOf vi).toNat)
    case atStart => exact ⟨0, 0, rfl, rfl, Nat.zero_le _, HR, rfl⟩
    case round =>
      obtain ⟨k, s, rfl, rfl, hk, HK, rfl⟩ := hrel
      by_cases hlt : k < l.length
      · obtain ⟨b, off, rfl, _, hc⟩ := H.out (by simpa using Nat.lt_of_le_of_lt (Nat.zero_le _) hlt)
        obtain ⟨e, he⟩ : ∃ e, l[k]? = some e := ⟨_, List.getElem?_eq_getElem hlt⟩
        have hce := hc k e.cells (by simp [he])
        have q2 := hce 2 _ rfl
        have q3 := hce 3 _ rfl
        have q4 := hce 4 _ rfl
        have q5 := hce 5 _ rfl
        have HD : Hid ((if s ≤ m then (if 60 < e.name.size then wrap64 (m + 1) else stmtsGo (l.drop (k + 1)) m (blocksGo e.bs m (labelsGo m e.ls (wrap64 (wrap64 (s + 1) + exprsGo e.es (wrap64 (m - s)) 0))))) else s) = r) := Aid.hid (by rw [← stmtsGo_cons, ← drop_cons he]; exact HK.out)
        obtain ⟨g1, ⟨ll, g2, g3⟩, bl, g4, g5⟩ := HS.out e (List.mem_of_getElem? he)
        have G1 := Aid.hid g1; have G2 := Aid.hid g2; have G3 := Aid.hid g3; have G4 := Aid.hid g4; have G5 := Aid.hid g5
        clear hc he hce HK g1 g2 g3 g4 g5
        by_cases hm : s ≤ m
        · by_cases h1 : (60 : Int) < (e.name.size : Int)
          · obtain rfl : wrap64 (m + 1) = r := by have := HD.out; rwa [if_pos hm, if_pos (by omega)] at this
            go_wp2_with fail
            go_ret
            exact ⟨rfl, rfl⟩
          · have h1b : decide ((60 : Int) < (e.name.size : Int)) = false := by simpa using h1
            have HE : Hid (stmtsGo (l.drop (k + 1)) m (blocksGo e.bs m (labelsGo m e.ls (wrap64 (wrap64 (s + 1) + exprsGo e.es (wrap64 (m - s)) 0)))) = r) := Aid.hid (by have := HD.out; rwa [if_pos hm, if_neg (by omega)] at this)
            clear HD
            go_wp2_with fail
            refine (exprs_is f e.eA B e.ec e.es _ _ _ rfl G1.out).mono ?_; rintro e' w' ⟨rfl, rfl⟩
            generalize exprsGo e.es (wrap64 (m - s)) 0 = q at HE ⊢
            go_wp2_with fail
            generalize wrap64 (wrap64 (s + 1) + q) = n1 at HE ⊢
            go_loopw [5, 7] (fun vn vj wi => ∃ (j : Nat) (n : Int), vn = .int .i64 n ∧ vj = .int .i64 j ∧ j ≤ e.ls.length ∧ Hid (stmtsGo (l.drop (k + 1)) m (blocksGo e.bs m (labelsGo m (e.ls.drop j) n)) = r) ∧ wi = wr) (fun _ vj _ => e.ls.length - (intOf vj).toNat)
            case atStart => exact ⟨0, n1, rfl, rfl, Nat.zero_le _, HE, rfl⟩
            case round =>
              clear HE
              obtain ⟨j, n, rfl, rfl, hj, HJ, rfl⟩ := hrel
              by_cases hjl : j < e.ls.length ∧ n ≤ m
              · obtain ⟨hjl, hnm⟩ := hjl
                obtain ⟨b2, off2, hA2, _, hc2⟩ := G2.out (by simpa using Nat.lt_of_le_of_lt (Nat.zero_le _) hjl)
                rw [hA2] at q4
                obtain ⟨x, hx⟩ : ∃ x, e.ls[j]? = some x := ⟨_, List.getElem?_eq_getElem hjl⟩
                have c2 := hc2 j x.cells (by simp [hx]) 0 _ rfl
                simp only [Nat.mul_one, Nat.add_zero] at c2
                have HL : Hid (stmtsGo (l.drop (k + 1)) m (blocksGo e.bs m (labelsGo m (e.ls.drop (j + 1)) (wrap64 (wrap64 (n + 1) + x.xs.length)))) = r) := Aid.hid (by have := HJ.out; rwa [drop_cons hx, labelsGo_cons, if_pos hnm] at this)
                have xl := (G3.out x (List.mem_of_getElem? hx)).1
                clear hc2 hx HJ
                go_wp2_with fail
                go_roundw
                case rel => exact ⟨j + 1, _, rfl, by go_num, by omega, HL, trivial⟩
                case measure => simp [intOf]; omega
              · have HL : Hid (stmtsGo (l.drop (k + 1)) m (blocksGo e.bs m n) = r) := Aid.hid (by
                  have := HJ.out
                  by_cases hjl2 : j < e.ls.length
                  · obtain ⟨x, hx⟩ : ∃ x, e.ls[j]? = some x := ⟨_, List.getElem?_eq_getElem hjl2⟩
                    rwa [drop_cons hx, labelsGo_cons, if_neg (fun h => hjl ⟨hjl2, h⟩)] at this
                  · rwa [show e.ls.drop j = [] from List.drop_eq_nil_of_le (by omega), show labelsGo m [] n = n from rfl] at this)
                clear HJ
                have key : (j < e.ls.length ∧ ¬ n ≤ m) ∨ ¬ j < e.ls.length := by
                  by_cases h : j < e.ls.length
                  · exact Or.inl ⟨h, fun h' => hjl ⟨h, h'⟩⟩
                  · exact Or.inr h
                clear hjl
                rcases key with ⟨hjl, hnm⟩ | hjl
                all_goals
                  (try have hnm2 : decide (n ≤ m) = false := by simpa using hnm)
                  go_wp2_with fail
                  go_loopw [5, 8] (fun vn vj wi => ∃ (i : Nat) (n : Int), vn = .int .i64 n ∧ vj = .int .i64 i ∧ i ≤ e.bs.length ∧ Hid (stmtsGo (l.drop (k + 1)) m (blocksGo (e.bs.drop i) m n) = r) ∧ wi = wr) (fun _ vj _ => e.bs.length - (intOf vj).toNat)
                  case atStart => exact ⟨0, n, rfl, rfl, Nat.zero_le _, HL, rfl⟩
                  case round =>
                    clear HL
                    obtain ⟨i, n', rfl, rfl, hi, HI, rfl⟩ := hrel
                    by_cases hil : i < e.bs.length
                    · obtain ⟨x, hx⟩ : ∃ x, e.bs[i]? = some x := ⟨_, List.getElem?_eq_getElem hil⟩
                      have HL : Hid (stmtsGo (l.drop (k + 1)) m (if n' ≤ m then blocksGo (e.bs.drop (i + 1)) m (wrap64 (wrap64 (n' + 1) + stmtsGo x.l (wrap64 (m - n')) 0)) else n') = r) := Aid.hid (by have := HI.out; rwa [drop_cons hx, blocksGo_cons] at this)
                      by_cases hnm : n' ≤ m
                      · obtain ⟨b2, off2, hA2, _, hc2⟩ := G4.out (by simpa using Nat.lt_of_le_of_lt (Nat.zero_le _) hil)
                        rw [hA2] at q5
                        have c2 := hc2 i x.cells (by simp [hx]) 0 _ rfl
                        simp only [Nat.mul_one, Nat.add_zero] at c2
                        have HL2 : Hid (stmtsGo (l.drop (k + 1)) m (blocksGo (e.bs.drop (i + 1)) m (wrap64 (wrap64 (n' + 1) + stmtsGo x.l (wrap64 (m - n')) 0))) = r) := Aid.hid (by have := HL.out; rwa [if_pos hnm] at this)
                        have HX := Aid.hid (G5.out x (List.mem_of_getElem? hx))
                        clear hc2 hx HI HL
                        go_wp2_with fail
                        refine (IH.out x.A B x.c x.l _ _ _ rfl HX.out).mono ?_; rintro e' w' ⟨rfl, rfl⟩
                        generalize stmtsGo x.l (wrap64 (m - n')) 0 = q2 at HL2 ⊢
                        go_wp2_with fail
                        go_roundw
                        case rel => exact ⟨i + 1, _, rfl, by go_num, by omega, HL2, trivial⟩
                        case measure => simp [intOf]; omega
                      · have hnm2' : decide (n' ≤ m) = false := by simpa using hnm
                        have HL2 : Hid (stmtsGo (l.drop (k + 1)) m n' = r) := Aid.hid (by have := HL.out; rwa [if_neg hnm] at this)
                        clear hx HI HL
                        go_wp2_with fail
                        go_roundw
                        case rel => exact ⟨k + 1, _, rfl, by go_num, by omega, HL2, trivial⟩
                        case measure => simp [intOf]; omega
                    · have HL2 : Hid (stmtsGo (l.drop (k + 1)) m n' = r) := Aid.hid (by have := HI.out; rwa [show e.bs.drop i = [] from List.drop_eq_nil_of_le (by omega), blocksGo_nil] at this)
                      clear HI
                      go_wp2_with fail
                      go_roundw
                      case rel => exact ⟨k + 1, _, rfl, by go_num, by omega, HL2, trivial⟩
                      case measure => simp [intOf]; omega
        · obtain rfl : s = r := by have := HD.out; rwa [if_neg hm] at this
          have hm2 : decide (s ≤ m) = false := by simpa using hm
          go_wp2_with fail
          go_ret
          exact ⟨rfl, rfl⟩
      · obtain rfl : s = r := by have := HK.out; rwa [List.drop_eq_nil_of_le (by omega), stmtsGo_nil] at this
        go_wp2_with fail
        go_ret
        exact ⟨rfl, rfl⟩
end Go.Proofs.YtejifefgmlpclaaGreat
/- GreatUnit, as a walk. -/
namespace Go.Proofs.YtejifefgmlpclaaGreat
open Go.RowKit

set_option maxRecDepth 100000 in
set_option maxHeartbeats 4000000 in
theorem greatUnit_big (a : Option Addr) (n cap : Nat) (w : World) (hn : 16 < n) :
    Calls Tryz.prog 4 #[.agg #[.slice a n cap], .int .i64 200] w fun e w' => e = .returned (.bool true) ∧ Below w.heap.size w w' := by
  have hb1 : Below w.heap.size w (w.alloc (.cells #[.slice a n cap] 24)) := (Below.refl _ _).alloc (Nat.le_refl _) _
  have h16 : decide ((n : Int) ≤ 16) = false := decide_eq_false (by omega)
  have h17 : decide ((16 : Int) < (n : Int)) = true := decide_eq_true (by omega)
  have h0 : decide ((0 : Int) < (n : Int)) = true := decide_eq_true (by omega)
  go_enter Tryz.func4, Tryz.ntmps4
  try simp only [List.append_eq, List.cons_append, List.nil_append]
  go_wp2_with fail
  go_loopw [5, 6] (fun vn vi wr => vn = .int .i64 0 ∧ vi = .int .i64 0 ∧ wr = (w.alloc (.cells #[.slice a n cap] 24))) (fun _ _ _ => 0)
  case atStart => exact ⟨rfl, rfl, rfl⟩
  case round =>
    obtain ⟨rfl, rfl, rfl⟩ := hrel
    go_wp2_with fail
    go_ret
    exact ⟨rfl, hb1⟩

theorem below_drewN_k {B : Nat} {a w : World} (h : Below B a w) (n : Nat) : Below B a (w.drewN n) := ⟨h.os, h.tape, h.output, h.size, h.block⟩
theorem below_drewN_ {w : World} {B : Nat} (n : Nat) : Below B w (w.drewN n) := ⟨rfl, rfl, rfl, Nat.le_refl _, fun _ _ => rfl⟩
theorem vars_q (A : Option Addr) (B cap : Nat) (ps : List Vd) (m r : Int) (w : World) (hr : Gr.vars ps m = r) (h : Rows w B 8 A (ps.map Vd.cells)) (hl : ps.length ≤ 9223372036854775807) (k : Nat) :
    Calls Tryz.prog 11 #[.slice A ps.length cap, .int .i64 m] (w.drewN k) fun e w'' => e = .returned (.int .i64 r) ∧ ∃ m, w'' = w.drewN m := by
  refine (vars_is A B cap ps m r (w.drewN k) hr (h.keep fun _ _ => rfl) hl).mono ?_
  rintro e w' ⟨h1, rfl⟩
  exact ⟨h1, k, rfl⟩
theorem stmts_q (f : Nat) (A : Option Addr) (B cap : Nat) (l : List St) (m r : Int) (w : World) (hr : stmtsGo l m 0 = r) (h : StsAt f w B A l) (k : Nat) :
    Calls Tryz.prog 12 #[.slice A l.length cap, .int .i64 m] (w.drewN k) fun e w'' => e = .returned (.int .i64 r) ∧ ∃ m, w'' = w.drewN m := by
  refine (stmts_is f A B cap l m r (w.drewN k) hr (h.below (below_drewN_ k) (Nat.le_refl B))).mono ?_
  rintro e w' ⟨h1, rfl⟩
  exact ⟨h1, k, rfl⟩
def Gr.Told (w : World) (e : Ending) (w' : World) : Prop := ∃ r, e = .returned (.bool r) ∧ Below w.heap.size w w'
set_option maxRecDepth 100000 in
set_option maxHeartbeats 4000000 in
theorem greatUnit_is (u : List Dk) (a : Option Addr) (B cap : Nat) (w : World) (hu : UnitAt w B a u) (hB : B ≤ w.heap.size) (hn : u.length ≤ 16) :
    Calls Tryz.prog 4 #[.agg #[.slice a u.length cap], .int .i64 200] w fun e w' => Gr.Told w e w' := by
  have HU := Aid.hid hu
  have hb1 : Below w.heap.size w (w.alloc (.cells #[.slice a u.length cap] 24)) := (Below.refl _ _).alloc (Nat.le_refl _) _
  have P0 := Aid.Has.new w [.slice a u.length cap] 24
  have h16 : decide ((u.length : Int) ≤ 16) = true := decide_eq_true (by omega)
  have h17 : decide ((16 : Int) < (u.length : Int)) = false := decide_eq_false (by omega)
  clear hu
  go_enter Tryz.func4, Tryz.ntmps4
  try simp only [List.append_eq, List.cons_append, List.nil_append]
  go_wp2_with fail
  obtain ⟨pb, hpb⟩ : ∃ pb, w.heap.size = pb := ⟨_, rfl⟩
  rw [hpb] at P0 ⊢
  generalize w.alloc (.cells #[.slice a u.length cap] 24) = W at *
  have HB1 := Aid.hid hb1
  have HP := Aid.hid P0
  have hpl := P0.lt
  clear hb1 P0
  clear hpb
  go_loopw [5, 6] (fun vn vi wr => ∃ (k : Nat) (n : Int), vn = .int .i64 n ∧ vi = .int .i64 k ∧ k ≤ u.length ∧ Hid (Below W.heap.size W wr)) (fun _ vi _ => u.length - (intOf vi).toNat)
  case atStart => exact ⟨0, 0, rfl, rfl, Nat.zero_le _, Aid.hid (Below.refl _ _)⟩
  case round =>
    obtain ⟨k, n, rfl, rfl, hk, HB⟩ := hrel
    have p0 := (HP.out.below HB.out hpl).cell 0 _ rfl
    have hpr : pb < wr.heap.size := Nat.lt_of_lt_of_le hpl HB.out.size
    by_cases hkl : k < u.length
    · by_cases hnm : n ≤ 200
      · obtain ⟨d, hd⟩ : ∃ d, u[k]? = some d := ⟨_, List.getElem?_eq_getElem hkl⟩
        have HD := Aid.hid hd
        obtain ⟨b, off, ha, hbB, hc⟩ := (HU.out.below (HB1.out.trans (HB.out.mono HB1.out.size)) hB).at_ (by omega)
        subst ha
        have c0 := hc k d hd 0 _ rfl
        have c1 := hc k d hd 1 _ rfl
        have c2 := hc k d hd 2 _ rfl
        have c3 := hc k d hd 3 _ rfl
        have c4 := hc k d hd 4 _ rfl
        have c5 := hc k d hd 5 _ rfl
        have c6 := hc k d hd 6 _ rfl
        have c7 := hc k d hd 7 _ rfl
        have c8 := hc k d hd 8 _ rfl
        have c9 := hc k d hd 9 _ rfl
        have c10 := hc k d hd 10 _ rfl
        simp only [Nat.add_zero] at c0
        clear hc hd
        have HDat := Aid.hid (HU.out.decls d (List.mem_of_getElem? HD.out))
        have HBB : Hid (Below w.heap.size w wr) := Aid.hid (HB1.out.trans (HB.out.mono HB1.out.size))
        go_upto_region 6 with (fail)
        refine Aid.wp_abs (fun w' => Below W.heap.size W w' ∧ Aid.Has w' wr.heap.size [.int .i64 d.kind, .string d.name, .string d.base, .slice d.fA d.faces.length d.fc, .bool d.abs, .bool d.fin, .slice d.vA d.vs.length d.vc, .slice d.mA d.ms.length d.mc, .slice d.bA d.body.length d.bc, .int .i64 d.every, .int .i64 d.first] 34) ?_ ?_
        · constructor
          · repeat' (first | exact HB.out | refine Below.drew ?_ | refine Below.alloc ?_ ?_ _ | exact HB.out.size | (simp; done) | (simp; omega))
          · repeat' (first | exact Aid.Has.new _ _ _ | refine Aid.Has.drew ?_ | refine Aid.Has.alloc ?_ _)
        clear c0 c1 c2 c3 c4 c5 c6 c7 c8 c9 c10 p0
        rintro w2 ⟨hb2, hd2⟩
        have HB2 := Aid.hid hb2
        have HD2 := Aid.hid hd2
        have hql := hd2.lt
        generalize wr.heap.size = q at hpr HD2 hql hd2 ⊢
        have d1 := hd2.cell 1 _ rfl; have d2 := hd2.cell 2 _ rfl; have d3 := hd2.cell 3 _ rfl; have d6 := hd2.cell 6 _ rfl; have d7 := hd2.cell 7 _ rfl; have d8 := hd2.cell 8 _ rfl
        clear hb2 hd2 hpr HB HBB
        have HU2 : Hid (DkAt w2 B d) := Aid.hid (HDat.out.below (HB1.out.trans (HB2.out.mono HB1.out.size)) hB)
        obtain ⟨r1, hr1⟩ : ∃ r, decide ((60 : Int) < (d.name.size : Int)) = r := ⟨_, rfl⟩
        obtain ⟨r2, hr2⟩ : ∃ r, decide ((60 : Int) < (d.base.size : Int)) = r := ⟨_, rfl⟩
        cases r1
        · cases r2
          · go_wp2_with fail
            obtain ⟨r3, hr3⟩ : ∃ r, Gr.texts d.faces 8 60 = r := ⟨_, rfl⟩
            refine (greatTexts_is d.fA B d.fc d.faces 8 60 r3 _ hr3 HU2.out.faces HU2.out.smallF).mono ?_; rintro e w' ⟨rfl, rfl⟩
            clear hr3
            cases r3
            · go_wp2_with fail
              obtain ⟨n1, hn1⟩ : ∃ r, Gr.vars d.vs 200 = r := ⟨_, rfl⟩
              obtain ⟨fu, hfu⟩ := HU2.out.body
              obtain ⟨n2, hn2⟩ : ∃ r, stmtsGo d.body (wrap64 (200 - n)) 0 = r := ⟨_, rfl⟩
              have CV := vars_q d.vA B d.vc d.vs 200 n1 w2 hn1 HU2.out.vars HU2.out.smallV
              have CS := stmts_q fu d.bA B d.bc d.body (wrap64 (200 - n)) n2 w2 hn2 hfu
              clear hn1 hn2 hfu
              go_quiet (first | (go_at_call 11; refine CV _) | (go_at_call 12; refine CS _))
              have HB3 : Hid (Below W.heap.size W (w2.drewN nq)) := Aid.hid (below_drewN_k HB2.out nq)
              have HD3 : Hid (Aid.Has (w2.drewN nq) q [.int .i64 d.kind, .string d.name, .string d.base, .slice d.fA d.faces.length d.fc, .bool d.abs, .bool d.fin, .slice d.vA d.vs.length d.vc, .slice d.mA d.ms.length d.mc, .slice d.bA d.body.length d.bc, .int .i64 d.every, .int .i64 d.first] 34) := HD2
              have hql3 : q < (w2.drewN nq).heap.size := hql
              have HU3 : Hid (DkAt (w2.drewN nq) B d) := Aid.hid (HU2.out.below (below_drewN_ nq) (Nat.le_refl B))
              have hBq : B ≤ (w2.drewN nq).heap.size := Nat.le_trans hB (Nat.le_trans HB1.out.size HB3.out.size)
              clear CV CS d1 d2 d3 d6 d7 d8 HD2 HB2 HU2 hql
              generalize w2.drewN nq = w3 at HB3 HD3 hql3 HU3 hBq ⊢
              go_wp2_with fail
              go_loopw [5, 8] (fun vn vi wi => ∃ (i : Nat) (n' : Int), vn = .int .i64 n' ∧ vi = .int .i64 i ∧ i ≤ d.ms.length ∧ Hid (Below w3.heap.size w3 wi)) (fun _ vi _ => d.ms.length - (intOf vi).toNat)
              case atStart => exact ⟨0, _, rfl, rfl, Nat.zero_le _, Aid.hid (Below.refl _ _)⟩
              case round =>
                obtain ⟨i, n', rfl, rfl, hi, HBi⟩ := hrel
                have e7 := (HD3.out.below HBi.out hql3).cell 7 _ rfl
                have smM := HU3.out.smallM
                have hqi : q < wr.heap.size := Nat.lt_of_lt_of_le hql3 HBi.out.size
                by_cases hil : i < d.ms.length
                · by_cases hnm' : n' ≤ 200
                  · obtain ⟨m, hm⟩ : ∃ m, d.ms[i]? = some m := ⟨_, List.getElem?_eq_getElem hil⟩
                    obtain ⟨mb, mo, hmA, hmb, hmc⟩ := (HU3.out.below HBi.out hBq).meth (by omega)
                    rw [hmA] at e7
                    clear hmA
                    have m0 := hmc i m hm 0 _ rfl
                    have m1 := hmc i m hm 1 _ rfl
                    have m2 := hmc i m hm 2 _ rfl
                    have m3 := hmc i m hm 3 _ rfl
                    have m4 := hmc i m hm 4 _ rfl
                    have m5 := hmc i m hm 5 _ rfl
                    have m6 := hmc i m hm 6 _ rfl
                    have m7 := hmc i m hm 7 _ rfl
                    have m8 := hmc i m hm 8 _ rfl
                    have m9 := hmc i m hm 9 _ rfl
                    have m10 := hmc i m hm 10 _ rfl
                    simp only [Nat.add_zero] at m0
                    have HMat := Aid.hid (HU3.out.each m (List.mem_of_getElem? hm))
                    clear hmc hm
                    have hmb2 : mb < wr.heap.size := Nat.lt_of_lt_of_le hmb (Nat.le_trans hBq HBi.out.size)
                    go_upto_region 13 with (fail)
                    refine Aid.wp_abs (fun w' => Below w3.heap.size w3 w' ∧ Aid.Has w' wr.heap.size [.string m.name, .bool m.over, .bool m.abs, .bool m.fin, .slice m.pA m.ps.length m.pc, .int .i64 m.res.k, .int .i64 m.res.lo, .int .i64 m.res.hi, .string m.res.name, .slice m.vA m.vs.length m.vc, .slice m.bA m.body.length m.bc] 46) ?_ ?_
                    · constructor
                      · repeat' (first | exact HBi.out | refine Below.drew ?_ | refine Below.alloc ?_ ?_ _ | exact HBi.out.size | (simp; done) | (simp; omega))
                      · repeat' (first | exact Aid.Has.new _ _ _ | refine Aid.Has.drew ?_ | refine Aid.Has.alloc ?_ _)
                    clear m0 m1 m2 m3 m4 m5 m6 m7 m8 m9 m10 e7
                    rintro w4 hm4
                    have HM := Aid.hid hm4
                    have hml := hm4.2.lt
                    obtain ⟨hb4, hd4⟩ := hm4
                    generalize wr.heap.size = qm at hd4 hml HM hqi hmb2 ⊢
                    have f0 := hd4.cell 0 _ rfl; have f4 := hd4.cell 4 _ rfl; have f8 := hd4.cell 8 _ rfl; have f9 := hd4.cell 9 _ rfl; have f10 := hd4.cell 10 _ rfl
                    have HM4 : Hid (MdAt w4 B m) := Aid.hid (HMat.out.below hb4 hBq)
                    clear hb4 hd4 HBi
                    obtain ⟨r4, hr4⟩ : ∃ r, decide ((60 : Int) < (m.name.size : Int)) = r := ⟨_, rfl⟩
                    obtain ⟨r5, hr5⟩ : ∃ r, decide ((60 : Int) < (m.res.name.size : Int)) = r := ⟨_, rfl⟩
                    cases r4
                    · cases r5
                      · go_wp2_with fail
                        obtain ⟨fu2, hfu2⟩ := HM4.out.body
                        have CP := vars_q m.pA B m.pc m.ps 200 _ w4 rfl HM4.out.params HM4.out.smallP
                        have CV := vars_q m.vA B m.vc m.vs 200 _ w4 rfl HM4.out.vars HM4.out.smallV
                        have CS := stmts_q fu2 m.bA B m.bc m.body (wrap64 (200 - n')) _ w4 rfl hfu2
                        clear hfu2
                        generalize Gr.vars m.ps 200 = n4 at CP
                        generalize Gr.vars m.vs 200 = n5 at CV
                        generalize stmtsGo m.body (wrap64 (200 - n')) 0 = n6 at CS
                        go_quiet (first | (go_at_call 11; with_reducible refine CP _) | (go_at_call 11; with_reducible refine CV _) | (go_at_call 12; refine CS _))
                        have HB5 : Hid (Below w3.heap.size w3 (w4.drewN nq)) := Aid.hid (below_drewN_k HM.out.1 nq)
                        clear CP CV CS f0 f4 f8 f9 f10 HM HM4
                        generalize w4.drewN nq = w5 at HB5 ⊢
                        go_wp2_with fail
                        go_roundw
                        case rel => exact ⟨i + 1, _, rfl, by go_num, by omega, HB5⟩
                        case measure => simp [intOf]; omega
                      · go_wp2_with fail
                        go_ret
                        exact ⟨_, rfl, HB1.out.trans ((HB3.out.trans (HM.out.1.mono HB3.out.size)).mono HB1.out.size)⟩
                    · go_wp2_with fail
                      go_ret
                      exact ⟨_, rfl, HB1.out.trans ((HB3.out.trans (HM.out.1.mono HB3.out.size)).mono HB1.out.size)⟩
                  · have hnm2 : decide (n' ≤ 200) = false := by simpa using hnm'
                    go_wp2_with fail
                    go_roundw
                    case rel => exact ⟨k + 1, _, rfl, by go_num, by omega, Aid.hid (HB3.out.trans (HBi.out.mono HB3.out.size))⟩
                    case measure => simp [intOf]; omega
                · obtain rfl : i = d.ms.length := by omega
                  go_wp2_with fail
                  go_roundw
                  case rel => exact ⟨k + 1, _, rfl, by go_num, by omega, Aid.hid (HB3.out.trans (HBi.out.mono HB3.out.size))⟩
                  case measure => simp [intOf]; omega
            · go_wp2_with fail
              go_ret
              exact ⟨_, rfl, HB1.out.trans (HB2.out.mono HB1.out.size)⟩
          · go_wp2_with fail
            go_ret
            exact ⟨_, rfl, HB1.out.trans (HB2.out.mono HB1.out.size)⟩
        · go_wp2_with fail
          go_ret
          exact ⟨_, rfl, HB1.out.trans (HB2.out.mono HB1.out.size)⟩
      · have hnm2 : decide (n ≤ 200) = false := by simpa using hnm
        have hnm3 : decide (200 < n) = true := by simpa using hnm
        go_wp2_with fail
        go_ret
        exact ⟨_, rfl, HB1.out.trans (HB.out.mono HB1.out.size)⟩
    · obtain rfl : k = u.length := by omega
      obtain ⟨r3, hr3⟩ : ∃ r, decide ((200 : Int) < n) = r := ⟨_, rfl⟩
      cases r3
      all_goals
        go_wp2_with fail
        go_ret
        exact ⟨_, rfl, HB1.out.trans (HB.out.mono HB1.out.size)⟩
end Go.Proofs.YtejifefgmlpclaaGreat
/- governorlaw0.Low, as a walk. -/
namespace Go.Proofs.YtejifefgmlpclaaGreat
open Go.RowKit

/-- A number, from 0 to below n. -/
def low (x n : Int) : Int := (x % 18446744073709551616) % n
theorem low_in (x n : Int) (h : 0 < n) : 0 ≤ low x n ∧ low x n < n := by
  unfold low; exact ⟨Int.emod_nonneg _ (by omega), Int.emod_lt_of_pos _ h⟩
theorem low_walks (x n : Int) (h : 0 < n) (h' : n ≤ 9223372036854775807) : wrap64 ((IntKind.u64.wrap x).tmod n) = low x n := by
  have e1 : IntKind.u64.wrap x = x % 18446744073709551616 := by simp [IntKind.wrap, IntKind.bits, IntKind.signed]
  rw [e1, Int.tmod_eq_emod_of_nonneg (by omega)]
  have := low_in x n h
  unfold low at *; unfold wrap64; omega

set_option maxHeartbeats 400000 in
theorem low_any (x n : Int) (w : World) (h : 0 < n) (h' : n ≤ 9223372036854775807) :
    Calls Tryz.prog 7 #[.int .i64 x, .int .i64 n] w fun e w' => e = .returned (.int .i64 (low x n)) ∧ w = w' := by
  go_enter Tryz.func7, Tryz.ntmps7
  go_wp2_with fail
  go_ret
  exact ⟨Aid.ret_int (low_walks x n h h'), rfl⟩
theorem low_is (x n r : Int) (h : low x n = r) (h1 : 0 < n) (h2 : n ≤ 9223372036854775807) (w : World) :
    Calls Tryz.prog 7 #[.int .i64 x, .int .i64 n] w fun e w' => e = .returned (.int .i64 r) ∧ w = w' := by
  rw [← h]; exact low_any x n w h1 h2
end Go.Proofs.YtejifefgmlpclaaGreat
