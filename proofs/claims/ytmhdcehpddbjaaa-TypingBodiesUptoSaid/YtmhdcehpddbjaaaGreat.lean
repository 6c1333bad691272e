/- What is gone through ahead of a law: texts, variables, expressions, statements. What is answered; nothing is written. -/
import Derived.Test.YtmhdcehpddbjaaaTabSpec
import Derived.WalkSpells
import Derived.WalkLawsBesides
import Derived.LoopTactic
import Derived.OwnWalk
namespace Go.Proofs.Ytmhdcehpddbjaaa
open Go.RowKit

theorem Rows.vd_ {w : World} {B : Nat} {A : Option Addr} {ps : List Vd} (h : Rows w B 8 A (ps.map Vd.cells)) (hn : 0 < ps.length) :
    ∃ b off, A = some ⟨b, off, none⟩ ∧ b < B ∧ ∀ (i : Nat) (v : Vd), ps[i]? = some v → ∀ j x, v.cells[j]? = some x → w.cell? ⟨b, off + i * 8 + j, none⟩ = some x := by
  obtain ⟨b, off, h1, h2, h3⟩ := h (by simpa using hn)
  exact ⟨b, off, h1, h2, fun i v hv j x hx => h3 i v.cells (by simp [hv]) j x hx⟩

/-- Are these texts more than is gone through? -/
def textsGo (m l : Int) : List ByteArray → Bool
  | [] => false
  | s :: r => decide (l < (s.size : Int)) || textsGo m l r
def Gr.texts (fs : List ByteArray) (m l : Int) : Bool := if (fs.length : Int) ≤ m then textsGo m l fs else true
set_option maxRecDepth 100000 in
set_option maxHeartbeats 1000000 in
theorem greatTexts_is (A : Option Addr) (B cap : Nat) (fs : List ByteArray) (m l : Int) (r : Bool) (w : World) (hr : Gr.texts fs m l = r) (h : Rows w B 1 A (fs.map fun s => [Value.string s])) (hl : fs.length ≤ 9223372036854775807) :
    Calls Try.prog 26 #[.slice A fs.length cap, .int .i64 m, .int .i64 l] w fun e w' => e = .returned (.bool r) ∧ w = w' := by
  have H := Aid.hid h
  clear h
  by_cases hm : (fs.length : Int) ≤ m
  · have HR : Hid (textsGo m l fs = r) := Aid.hid (by unfold Gr.texts at hr; rwa [if_pos hm] at hr)
    clear hr
    go_enter Try.func26, Try.ntmps26
    try simp only [List.append_eq, List.cons_append, List.nil_append]
    go_wp2_with fail
    go_loopw [7] (fun i wr => ∃ k : Nat, i = .int .i64 k ∧ k ≤ fs.length ∧ Hid (textsGo m l (fs.drop k) = r) ∧ wr = w) (fun i _ => fs.length - (intOf i).toNat)
    case atStart => exact ⟨0, rfl, Nat.zero_le _, HR, rfl⟩
    case round =>
      obtain ⟨k, rfl, hk, HK, rfl⟩ := hrel
      by_cases hlt : k < fs.length
      · obtain ⟨b, off, rfl, _, hc⟩ := H.out (by simpa using Nat.lt_of_le_of_lt (Nat.zero_le _) hlt)
        obtain ⟨s, hs⟩ : ∃ s, fs[k]? = some s := ⟨_, List.getElem?_eq_getElem hlt⟩
        have c0 := hc k [.string s] (by simp [hs]) 0 _ rfl
        simp only [Nat.mul_one, Nat.add_zero] at c0
        have hd : fs.drop k = s :: fs.drop (k + 1) := by
          obtain ⟨h1, h2⟩ := List.getElem?_eq_some_iff.1 hs
          rw [← h2, List.getElem_cons_drop h1]
        have HD : Hid ((decide (l < (s.size : Int)) || textsGo m l (fs.drop (k + 1))) = r) := Aid.hid (by have := HK.out; rw [hd] at this; exact this)
        clear hc hs hd HK
        by_cases hq : l < (s.size : Int)
        · obtain rfl : true = r := by have := HD.out; simpa [hq] using this
          go_wp2_with fail
          go_ret
          exact ⟨rfl, rfl⟩
        · have hq2 : decide (l < (s.size : Int)) = false := by simpa using hq
          have HE : Hid (textsGo m l (fs.drop (k + 1)) = r) := Aid.hid (by have := HD.out; rwa [hq2, Bool.false_or] at this)
          go_wp2_with fail
          go_roundw
          case rel => exact ⟨k + 1, by go_num, by omega, HE, trivial⟩
          case measure => simp [intOf]; omega
      · obtain rfl : false = r := by have := HK.out; rwa [List.drop_eq_nil_of_le (by omega)] at this
        have hm2 : decide (m < (fs.length : Int)) = false := by simpa using hm
        go_wp2_with fail
        go_ret
        exact ⟨rfl, rfl⟩
  · obtain rfl : true = r := by unfold Gr.texts at hr; rwa [if_neg hm] at hr
    have hm2 : decide ((fs.length : Int) ≤ m) = false := by simpa using hm
    have hm3 : m < (fs.length : Int) := by omega
    go_enter Try.func26, Try.ntmps26
    try simp only [List.append_eq, List.cons_append, List.nil_append]
    go_wp2_with fail
    refine wp_loop_rounds 1 ?_
    rw [rounds_succ]
    by_cases h0 : 0 < fs.length
    · go_wp2_with fail
      go_ret
      exact ⟨rfl, rfl⟩
    · go_wp2_with fail
      go_ret
      exact ⟨rfl, rfl⟩
def varsGo (m : Int) : List Vd → Bool
  | [] => false
  | v :: r => decide (60 < (v.name.size : Int)) || (decide (60 < (v.ty.name.size : Int)) || varsGo m r)
def Gr.vars (ps : List Vd) (m : Int) : Int := if (ps.length : Int) ≤ m ∧ varsGo m ps = true then wrap64 (m + 1) else ps.length
set_option maxRecDepth 100000 in
set_option maxHeartbeats 1000000 in
theorem vars_is (A : Option Addr) (B cap : Nat) (ps : List Vd) (m r : Int) (w : World) (hr : Gr.vars ps m = r) (h : Rows w B 8 A (ps.map Vd.cells)) (hl : ps.length ≤ 9223372036854775807) :
    Calls Try.prog 27 #[.slice A ps.length cap, .int .i64 m] w fun e w' => e = .returned (.int .i64 r) ∧ w = w' := by
  have H := Aid.hid h
  clear h
  by_cases hm : (ps.length : Int) ≤ m
  · have HR : Hid ((if varsGo m ps = true then wrap64 (m + 1) else (ps.length : Int)) = r) := Aid.hid (by unfold Gr.vars at hr; simpa [hm] using hr)
    clear hr
    go_enter Try.func27, Try.ntmps27
    try simp only [List.append_eq, List.cons_append, List.nil_append]
    go_wp2_with fail
    go_loopw [5] (fun i wr => ∃ k : Nat, i = .int .i64 k ∧ k ≤ ps.length ∧ Hid ((if varsGo m (ps.drop k) = true then wrap64 (m + 1) else (ps.length : Int)) = r) ∧ wr = w) (fun i _ => ps.length - (intOf i).toNat)
    case atStart => exact ⟨0, rfl, Nat.zero_le _, HR, rfl⟩
    case round =>
      obtain ⟨k, rfl, hk, HK, rfl⟩ := hrel
      by_cases hlt : k < ps.length
      · obtain ⟨b, off, rfl, _, hc⟩ := Rows.vd_ H.out (by omega)
        obtain ⟨v, hv⟩ : ∃ v, ps[k]? = some v := ⟨_, List.getElem?_eq_getElem hlt⟩
        have c0 := hc k v hv 0 _ rfl
        have c4 := hc k v hv 4 _ rfl
        simp only [Nat.add_zero] at c0
        have hd : ps.drop k = v :: ps.drop (k + 1) := by
          obtain ⟨h1, h2⟩ := List.getElem?_eq_some_iff.1 hv
          rw [← h2, List.getElem_cons_drop h1]
        have HD : Hid ((if (decide (60 < (v.name.size : Int)) || (decide (60 < (v.ty.name.size : Int)) || varsGo m (ps.drop (k + 1)))) = true then wrap64 (m + 1) else (ps.length : Int)) = r) := Aid.hid (by have := HK.out; rw [hd] at this; exact this)
        clear hc hv hd HK
        by_cases h1 : (60 : Int) < (v.name.size : Int)
        · obtain rfl : wrap64 (m + 1) = r := by have := HD.out; simpa [h1] using this
          go_wp2_with fail
          go_ret
          exact ⟨rfl, rfl⟩
        · have h1b : decide ((60 : Int) < (v.name.size : Int)) = false := by simpa using h1
          by_cases h2 : (60 : Int) < (v.ty.name.size : Int)
          · obtain rfl : wrap64 (m + 1) = r := by have := HD.out; simpa [h2] using this
            go_wp2_with fail
            go_ret
            exact ⟨rfl, rfl⟩
          · have h2b : decide ((60 : Int) < (v.ty.name.size : Int)) = false := by simpa using h2
            have HE : Hid ((if varsGo m (ps.drop (k + 1)) = true then wrap64 (m + 1) else (ps.length : Int)) = r) := Aid.hid (by have := HD.out; rwa [h1b, h2b, Bool.false_or, Bool.false_or] at this)
            go_wp2_with fail
            go_roundw
            case rel => exact ⟨k + 1, by go_num, by omega, HE, trivial⟩
            case measure => simp [intOf]; omega
      · obtain rfl : (ps.length : Int) = r := by have := HK.out; rw [List.drop_eq_nil_of_le (by omega)] at this; simpa [varsGo] using this
        go_wp2_with fail
        go_ret
        exact ⟨rfl, rfl⟩
  · obtain rfl : (ps.length : Int) = r := by unfold Gr.vars at hr; rwa [if_neg (fun h => hm h.1)] at hr
    have hm2 : decide ((ps.length : Int) ≤ m) = false := by simpa using hm
    go_enter Try.func27, Try.ntmps27
    try simp only [List.append_eq, List.cons_append, List.nil_append]
    go_wp2_with fail
    refine wp_loop_rounds 1 ?_
    rw [rounds_succ]
    by_cases h0 : 0 < ps.length
    · go_wp2_with fail
      go_ret
      exact ⟨rfl, rfl⟩
    · go_wp2_with fail
      go_ret
      exact ⟨rfl, rfl⟩
def exprsGo : List Ex → Int → Int → Int
  | [], _, n => n
  | .mk _ _ nm wh _ args _ :: r, m, n => if n ≤ m then (if 60 < nm.size ∨ 60 < wh.size then wrap64 (m + 1) else exprsGo r m (wrap64 (wrap64 (n + 1) + exprsGo args (wrap64 (m - n)) 0))) else n
def labelsGo (m : Int) : List Lb → Int → Int
  | [], n => n
  | x :: r, n => if n ≤ m then labelsGo m r (wrap64 (wrap64 (n + 1) + x.xs.length)) else n
mutual
def stmtsGo : List St → Int → Int → Int
  | [], _, n => n
  | .mk _ _ nm _ es _ _ ls _ _ bs _ :: r, m, n => if n ≤ m then (if 60 < nm.size then wrap64 (m + 1) else stmtsGo r m (blocksGo bs m (labelsGo m ls (wrap64 (wrap64 (n + 1) + exprsGo es (wrap64 (m - n)) 0))))) else n
def blocksGo : List Bk → Int → Int → Int
  | [], _, n => n
  | .mk _ l _ :: r, m, n => if n ≤ m then blocksGo r m (wrap64 (wrap64 (n + 1) + stmtsGo l (wrap64 (m - n)) 0)) else n
end
theorem exprsGo_cons (e : Ex) (r : List Ex) (m n : Int) : exprsGo (e :: r) m n = if n ≤ m then (if 60 < e.name.size ∨ 60 < e.what.size then wrap64 (m + 1) else exprsGo r m (wrap64 (wrap64 (n + 1) + exprsGo e.args (wrap64 (m - n)) 0))) else n := by
  cases e; rw [exprsGo]; rfl
theorem stmtsGo_cons (s : St) (r : List St) (m n : Int) : stmtsGo (s :: r) m n = if n ≤ m then (if 60 < s.name.size then wrap64 (m + 1) else stmtsGo r m (blocksGo s.bs m (labelsGo m s.ls (wrap64 (wrap64 (n + 1) + exprsGo s.es (wrap64 (m - n)) 0))))) else n := by
  cases s; rw [stmtsGo]; rfl
theorem blocksGo_cons (b : Bk) (r : List Bk) (m n : Int) : blocksGo (b :: r) m n = if n ≤ m then blocksGo r m (wrap64 (wrap64 (n + 1) + stmtsGo b.l (wrap64 (m - n)) 0)) else n := by
  cases b; rw [blocksGo]; rfl
theorem stmtsGo_nil (m n : Int) : stmtsGo [] m n = n := by rw [stmtsGo]
theorem blocksGo_nil (m n : Int) : blocksGo [] m n = n := by rw [blocksGo]
theorem exprsGo_nil (m n : Int) : exprsGo [] m n = n := by rw [exprsGo]
theorem drop_cons {α : Type} {l : List α} {k : Nat} {x : α} (h : l[k]? = some x) : l.drop k = x :: l.drop (k + 1) := by
  obtain ⟨h1, h2⟩ := List.getElem?_eq_some_iff.1 h
  rw [← h2, List.getElem_cons_drop h1]

set_option maxRecDepth 100000 in
set_option maxHeartbeats 2000000 in
theorem exprs_is : ∀ (f : Nat) (A : Option Addr) (B cap : Nat) (l : List Ex) (m r : Int) (w : World), exprsGo l m 0 = r → ExsAt f w B A l →
    Calls Try.prog 29 #[.slice A l.length cap, .int .i64 m] w fun e w' => e = .returned (.int .i64 r) ∧ w = w' := by
  intro f
  induction f with
  | zero =>
    intro A B cap l m r w hr h
    obtain rfl : l = [] := h
    obtain rfl : 0 = r := by rw [← hr, exprsGo_nil]
    clear hr
    go_enter Try.func29, Try.ntmps29
    try simp only [List.append_eq, List.cons_append, List.nil_append]
    go_wp2_with fail
    go_loopw [5, 6] (fun vn vi wr => vn = .int .i64 0 ∧ vi = .int .i64 0 ∧ wr = w) (fun _ _ _ => 0)
    case atStart => exact ⟨rfl, rfl, rfl⟩
    case round =>
      obtain ⟨rfl, rfl, rfl⟩ := hrel
      go_wp2_with fail
      go_ret
      exact ⟨rfl, rfl⟩
  | succ f ih =>
    intro A B cap l m r w hr h
    obtain ⟨hn, h1, h2⟩ := h
    have H := Aid.hid h1
    have HS := Aid.hid h2
    have IH := Aid.hid ih
    have HR := Aid.hid hr
    clear h1 h2 ih hr
    go_enter Try.func29, Try.ntmps29
    try simp only [List.append_eq, List.cons_append, List.nil_append]
    go_wp2_with fail
    go_loopw [5, 6] (fun vn vi wr => ∃ (k : Nat) (s : Int), vn = .int .i64 s ∧ vi = .int .i64 k ∧ k ≤ l.length ∧ Hid (exprsGo (l.drop k) m s = r) ∧ wr = w) (fun _ vi _ => l.length - (intOf vi).toNat)
    case atStart => exact ⟨0, 0, rfl, rfl, Nat.zero_le _, HR, rfl⟩
    case round =>
      obtain ⟨k, s, rfl, rfl, hk, HK, rfl⟩ := hrel
      by_cases hlt : k < l.length
      · obtain ⟨b, off, rfl, _, hc⟩ := H.out (by simpa using Nat.lt_of_le_of_lt (Nat.zero_le _) hlt)
        obtain ⟨e, he⟩ : ∃ e, l[k]? = some e := ⟨_, List.getElem?_eq_getElem hlt⟩
        have hce := hc k e.cells (by simp [he])
        have q2 := hce 2 _ rfl
        have q3 := hce 3 _ rfl
        have q4 := hce 4 _ rfl
        have HD : Hid ((if s ≤ m then (if 60 < e.name.size ∨ 60 < e.what.size then wrap64 (m + 1) else exprsGo (l.drop (k + 1)) m (wrap64 (wrap64 (s + 1) + exprsGo e.args (wrap64 (m - s)) 0))) else s) = r) := Aid.hid (by rw [← exprsGo_cons, ← drop_cons he]; exact HK.out)
        have HA := Aid.hid (HS.out e (List.mem_of_getElem? he))
        clear hc he hce HK
        by_cases hm : s ≤ m
        · by_cases h1 : (60 : Int) < (e.name.size : Int)
          · obtain rfl : wrap64 (m + 1) = r := by have := HD.out; rwa [if_pos hm, if_pos (Or.inl (by omega))] at this
            go_wp2_with fail
            go_ret
            exact ⟨rfl, rfl⟩
          · have h1b : decide ((60 : Int) < (e.name.size : Int)) = false := by simpa using h1
            by_cases h2 : (60 : Int) < (e.what.size : Int)
            · obtain rfl : wrap64 (m + 1) = r := by have := HD.out; rwa [if_pos hm, if_pos (Or.inr (by omega))] at this
              go_wp2_with fail
              go_ret
              exact ⟨rfl, rfl⟩
            · have h2b : decide ((60 : Int) < (e.what.size : Int)) = false := by simpa using h2
              have HE : Hid (exprsGo (l.drop (k + 1)) m (wrap64 (wrap64 (s + 1) + exprsGo e.args (wrap64 (m - s)) 0)) = r) := Aid.hid (by have := HD.out; rwa [if_pos hm, if_neg (by omega)] at this)
              go_wp2_with fail
              refine (IH.out e.A B e.c e.args _ _ _ rfl HA.out).mono ?_; rintro e' w' ⟨rfl, rfl⟩
              generalize exprsGo e.args (wrap64 (m - s)) 0 = q at HE ⊢
              go_wp2_with fail
              go_roundw
              case rel => exact ⟨k + 1, _, rfl, by go_num, by omega, HE, trivial⟩
              case measure => simp [intOf]; omega
        · obtain rfl : s = r := by have := HD.out; rwa [if_neg hm] at this
          have hm2 : decide (s ≤ m) = false := by simpa using hm
          go_wp2_with fail
          go_ret
          exact ⟨rfl, rfl⟩
      · obtain rfl : s = r := by have := HK.out; rwa [List.drop_eq_nil_of_le (by omega), exprsGo_nil] at this
        go_wp2_with fail
        go_ret
        exact ⟨rfl, rfl⟩
end Go.Proofs.Ytmhdcehpddbjaaa
