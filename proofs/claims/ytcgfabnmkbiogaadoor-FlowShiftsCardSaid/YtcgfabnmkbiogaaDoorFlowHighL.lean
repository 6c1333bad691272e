/- So many numbers one on the other, taken off again. -/
import Derived.Test.YtcgfabnmkbiogaaDoorFlowOps
namespace Go.Proofs.YtcgfabnmkbiogaaDoor

theorem start_top {c : Cod} (h : 0 < c.ops.length) : ∃ s, (FSt.start c).reach 0 Fl.e = some s ∧ FSt.Top s [] 0 (tb []) 0 ∧ (∀ j, 0 < j → j < c.ops.length → s.kn[j]? = some false) ∧ s.kn.length = c.ops.length ∧ s.kn[0]? = some true := by
  have h0 : (FSt.start c).kn[0]? = some false := by simp [FSt.start, List.getElem?_replicate, h]
  obtain ⟨s, h1, h2, h3, h4⟩ := FSt.reach_new (t := Fl.e) h0 (by simp [FSt.start])
  refine ⟨s, h1, h2, fun j hj hl => ?_, h3.1.trans (by simp [FSt.start]), h4⟩
  rw [(h3.2.2 j (by omega)).1]
  simp [FSt.start, List.getElem?_replicate, hl]
theorem Fl.Is.of {x : Img} {c : Cod} {s : FSt} {r : Option Int} (hx : x.codes = [c]) (h : (FSt.start c).reach 0 Fl.e = some s) (k : Runs x c s r) : Fl.Is x 0 r :=
  Or.inr ⟨c, Int.le_refl _, by simp [hx], Or.inr ⟨s, h, k⟩⟩
theorem FSt.Top.end_ {x : Img} {c : Cod} {s : FSt} {i : Nat} {m : Int} (h : FSt.Top s [] i (tb []) m) (ho : c.ops[i]? = some ⟨29, 0, 0⟩) (hr : c.ret = false) (hm : 0 ≤ m) : Runs x c s (some m) := by
  have e := Runs.done (x := x) (c := c) (s := { s with td := [], most := max m 0 }) rfl
  refine h.ret ho (after_ret x c [] hr) (Or.inl rfl) rfl ?_
  rw [show (some m : Option Int) = some (max m 0) by rw [Int.max_eq_left hm]]
  exact e
/-- What is put on, by bits. -/
def hiOp (b : Nat → Bool) (j : Nat) : Opr := if b j then ⟨2, 0, 0⟩ else ⟨1, j, 0⟩
def hiLt (b : Nat → Bool) (j : Nat) : UInt8 := if b j then 114 else 105
def hiSt (b : Nat → Bool) (n j : Nat) : ByteArray := tb ((List.range (if j ≤ n then j else 2 * n - j)).map (hiLt b))
def hiOps (b : Nat → Bool) (n : Nat) : List Opr := (List.range n).map (hiOp b) ++ List.replicate n ⟨34, 0, 0⟩
theorem hi_line {x : Img} {c : Cod} (b : Nat → Bool) (n : Nat) (hn : n ≤ 100) (tail : List Opr) (ht : 0 < tail.length) (ho : c.ops = hiOps b n ++ tail) :
    ∃ s s', (FSt.start c).reach 0 Fl.e = some s ∧ FSt.Top s' [] (2 * n) (tb []) n ∧ (∀ j, 2 * n < j → j < c.ops.length → s'.kn[j]? = some false) ∧ ∀ r, Runs x c s' r → Runs x c s r := by
  have hl : (hiOps b n).length = 2 * n := by simp [hiOps]; omega
  have hlen : c.ops.length = 2 * n + tail.length := by rw [ho, List.length_append, hl]
  obtain ⟨s, h1, h2, h3, h4, _⟩ := start_top (c := c) (by omega)
  have h2' : FSt.Top s [] 0 (hiSt b n 0) ((min 0 n : Nat) : Int) := by simpa [hiSt] using h2
  obtain ⟨s', k1, k2, _, k3⟩ := FSt.line (x := x) (c := c) (hiSt b n) (fun j => ((min j n : Nat) : Int)) (2 * n) s 0 h2' (by
    intro j _ hj
    have hg : c.ops[j]? = (hiOps b n)[j]? := by rw [ho, List.getElem?_append_left (by omega)]
    rcases Nat.lt_or_ge j n with h | h
    · have e1 : (if j ≤ n then j else 2 * n - j) = j := if_pos (by omega)
      have e2 : (if j + 1 ≤ n then j + 1 else 2 * n - (j + 1)) = j + 1 := if_pos (by omega)
      have e3 : c.ops[j]? = some (hiOp b j) := by
        rw [hg]; unfold hiOps
        rw [List.getElem?_append_left (by simpa using h)]; simp [h]
      refine ⟨_, e3, ?_, ?_, ?_, ?_⟩
      · unfold hiOp; split <;> simp [Fl.Str]
      · unfold hiSt
        rw [e1, e2, List.range_succ, List.map_append]
        unfold hiOp
        cases hb : b j
        · have := after_push x c ((List.range j).map (hiLt b)) j (by omega)
          simpa [hiLt, hb] using this
        · have := after_null x c ((List.range j).map (hiLt b))
          simpa [hiLt, hb] using this
      · unfold hiSt; rw [e2, tb_size]; simp; omega
      · unfold hiSt; rw [e2, tb_size]; simp; omega
    · have e1 : (if j ≤ n then j else 2 * n - j) = 2 * n - j := by split <;> omega
      have e2 : (if j + 1 ≤ n then j + 1 else 2 * n - (j + 1)) = 2 * n - j - 1 := by split <;> omega
      have e4 : 2 * n - j = 2 * n - j - 1 + 1 := by omega
      have e3 : c.ops[j]? = some ⟨34, 0, 0⟩ := by
        rw [hg]; unfold hiOps
        rw [List.getElem?_append_right (by simpa using h), List.getElem?_replicate, if_pos (by rw [List.length_map, List.length_range]; omega)]
      refine ⟨_, e3, ?_, ?_, ?_, ?_⟩
      · simp [Fl.Str]
      · unfold hiSt
        rw [e1, e2]
        rw [e4, List.range_succ, List.map_append]
        exact after_pop x c _ _
      · unfold hiSt; rw [e2, tb_size]; simp; omega
      · have a1 : min (j + 1) n = n := by omega
        have a2 : min j n = n := by omega
        unfold hiSt; rw [e2, tb_size]; simp only [a1, a2, List.length_map, List.length_range]
        rw [Int.max_eq_left (by omega)]) (fun j g1 g2 => h3 j g1 (by omega))
  refine ⟨s, s', h1, ?_, fun j g1 g2 => ?_, k3⟩
  · rw [Nat.zero_add] at k1
    have e1 : hiSt b n (2 * n) = tb [] := by
      unfold hiSt
      have : (if 2 * n ≤ n then 2 * n else 2 * n - 2 * n) = 0 := by split <;> omega
      rw [this]; rfl
    have e2 : ((min (2 * n) n : Nat) : Int) = n := by rw [Nat.min_eq_right (by omega)]
    rw [e1] at k1
    exact ⟨k1.td, k1.st, k1.most.trans e2, k1.len⟩
  · rw [(k2.2.2 j (by omega)).1]; exact h3 j (by omega) g2
section
variable {x : Img} {c : Cod} (b : Nat → Bool) (n : Nat) (hn : n ≤ 100) (hx : x.codes = [c]) (hr : c.ret = false)
include hn hx hr
theorem high_good (ho : c.ops = hiOps b n ++ [⟨29, 0, 0⟩]) : Fl.Is x 0 (some n) := by
  obtain ⟨s, s', h1, h2, h3, h4⟩ := hi_line (x := x) b n hn _ (by simp) ho
  have hl : (hiOps b n).length = 2 * n := by simp [hiOps]; omega
  exact .of hx h1 (h4 _ (h2.end_ (by rw [ho, List.getElem?_append_right (by omega), hl]; simp) hr (by omega)))
theorem high_more (ho : c.ops = hiOps b n ++ [⟨1, 0, 0⟩, ⟨29, 0, 0⟩]) : Fl.Is x 0 none := by
  obtain ⟨s, s', h1, h2, h3, h4⟩ := hi_line (x := x) b n hn _ (by simp) ho
  have hl : (hiOps b n).length = 2 * n := by simp [hiOps]; omega
  have hlen : c.ops.length = 2 * n + 2 := by rw [ho, List.length_append, hl]; rfl
  have e := h2.one (x := x) (o := ⟨1, 0, 0⟩) (by rw [ho, List.getElem?_append_right (by omega), hl]; simp) (after_push x c [] 0 (by omega)) (by simp [Fl.Str]) (by simp [tb_size])
  obtain ⟨s1, g1, g2, g3, _⟩ := FSt.reach_new (s := { s' with td := [], most := max (n : Int) (tb ([] ++ [105])).size }) (i := 2 * n + 1) (t := tb ([] ++ [105])) (h3 _ (by omega) (by omega)) h2.len
  rw [g1] at e
  refine .of hx h1 (h4 _ (.more h2.td e (g2.ret_no (o := ⟨29, 0, 0⟩) ?_ (after_ret x c _ hr) (Or.inl rfl) ?_ ?_)))
  · rw [ho, List.getElem?_append_right (by omega), hl]; simp
  · simp [tb_size]
  · simp [tb_size]
omit hr in
theorem high_less (ho : c.ops = hiOps b n ++ [⟨34, 0, 0⟩, ⟨29, 0, 0⟩]) : Fl.Is x 0 none := by
  obtain ⟨s, s', h1, h2, h3, h4⟩ := hi_line (x := x) b n hn _ (by simp) ho
  have hl : (hiOps b n).length = 2 * n := by simp [hiOps]; omega
  exact .of hx h1 (h4 _ (h2.wrong (o := ⟨34, 0, 0⟩) (by rw [ho, List.getElem?_append_right (by omega), hl]; simp) (after_pop_no x c)))
end
end Go.Proofs.YtcgfabnmkbiogaaDoor
