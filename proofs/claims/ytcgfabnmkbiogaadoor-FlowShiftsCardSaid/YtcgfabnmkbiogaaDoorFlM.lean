/- A code alone, and what Check says of it; awake. -/
import Derived.Test.YtcgfabnmkbiogaaDoorFlL
import Derived.Test.YtcgfabnmkbiogaaDoorFlowJoinL
import Derived.WalkKit
import Derived.WalkSpells
import Derived.WalkLawsBesides
import Derived.LoopTactic
import Derived.Deep.QuietTactic
import Derived.BigQuiet
import Derived.Below
import Derived.Laws.ResultCell
import Derived.Laws.Tables
import Derived.Laws.Rows
import Derived.Deep.Cut
import Derived.KernelRfl
namespace Go.Proofs.YtcgfabnmkbiogaaDoor
open Go.RowKit

def oneCode (ret : Bool) (A : Option Addr) (ops : List Opr) (cap : Nat) : Cod := ⟨-1, ⟨#[]⟩, ⟨#[]⟩, ret, 0, A, ops, cap⟩
/-- An image of one code. -/
def oneImg (d : Nat) (c : Cod) : Img := ⟨none, [], 0, none, [], 0, some ⟨d, 0, none⟩, [c], 1, none, [], 0, ⟨#[]⟩, none, [], 0, none, [], 0, none, [], 0, none, [], 0, none, [], 0, 0, 0⟩
set_option maxRecDepth 100000 in
set_option maxHeartbeats 2000000 in
theorem code_is (ret : Bool) (A : Option Addr) (n cap : Nat) (w : World) :
    Calls Tryd.prog 9 #[.bool ret, .slice A n cap] w fun e w' => e = .returned (.agg #[.slice none 0 0, .slice none 0 0, .slice (some ⟨(w.heap.size + 1), 0, none⟩) 1 1, .slice none 0 0, .string ⟨#[]⟩, .slice none 0 0, .slice none 0 0, .slice none 0 0, .slice none 0 0, .slice none 0 0, .int .i64 0, .int .i64 0]) ∧ Aid.Has w' (w.heap.size + 1) [.int .i64 (-1), .string ⟨#[]⟩, .string ⟨#[]⟩, .bool ret, .int .i64 0, .slice A n cap] 45 ∧ Below w.heap.size w w' := by
  have hz := Aid.Has.new w [.slice none 0 0, .slice none 0 0, .slice none 0 0, .slice none 0 0, .string ⟨#[]⟩, .slice none 0 0, .slice none 0 0, .slice none 0 0, .slice none 0 0, .slice none 0 0, .int .i64 0, .int .i64 0] 35
  obtain ⟨X, hX⟩ : ∃ X, (w.alloc (.cells #[.slice none 0 0, .slice none 0 0, .slice none 0 0, .slice none 0 0, .string ⟨#[]⟩, .slice none 0 0, .slice none 0 0, .slice none 0 0, .slice none 0 0, .slice none 0 0, .int .i64 0, .int .i64 0] 35)) = X := ⟨_, rfl⟩
  rw [hX] at hz
  have kx : Below w.heap.size w X := by rw [← hX]; exact (Below.refl _ _).alloc (Nat.le_refl _) _
  have sx : X.heap.size = w.heap.size + 1 := by rw [← hX]; exact World.size_alloc _ _
  have HX := Aid.hid hX
  have hc := Aid.Has.new X [.int .i64 (-1), .string ⟨#[]⟩, .string ⟨#[]⟩, .bool ret, .int .i64 0, .slice A n cap] 45
  rw [sx] at hc
  have hz2 := hz.alloc (.cells #[.int .i64 (-1), .string ⟨#[]⟩, .string ⟨#[]⟩, .bool ret, .int .i64 0, .slice A n cap] 45)
  have HZ2 : (X.alloc (.cells #[.int .i64 (-1), .string ⟨#[]⟩, .string ⟨#[]⟩, .bool ret, .int .i64 0, .slice A n cap] 45)).heap[w.heap.size]? = some (.cells #[.slice none 0 0, .slice none 0 0, .slice none 0 0, .slice none 0 0, .string ⟨#[]⟩, .slice none 0 0, .slice none 0 0, .slice none 0 0, .slice none 0 0, .slice none 0 0, .int .i64 0, .int .i64 0] 35 (0, 0)) := hz2
  have HC := Aid.hid hc
  have KX := Aid.hid (kx.alloc kx.size (.cells #[.int .i64 (-1), .string ⟨#[]⟩, .string ⟨#[]⟩, .bool ret, .int .i64 0, .slice A n cap] 45))
  clear hX hz hc kx
  go_enter Tryd.func9, Tryd.ntmps9
  try simp only [List.append_eq, List.cons_append, List.nil_append]
  go_wp2_with (first | (rw [HX.out]; fail) | (refine wpList_store_row rfl 35 _ _ rfl w.heap.size #[.slice none 0 0, .slice none 0 0, .slice (some ⟨(w.heap.size + 1), 0, none⟩) 1 1, .slice none 0 0, .string ⟨#[]⟩, .slice none 0 0, .slice none 0 0, .slice none 0 0, .slice none 0 0, .slice none 0 0, .int .i64 0, .int .i64 0] rfl rfl 35 #[.slice none 0 0, .slice none 0 0, .slice none 0 0, .slice none 0 0, .string ⟨#[]⟩, .slice none 0 0, .slice none 0 0, .slice none 0 0, .slice none 0 0, .slice none 0 0, .int .i64 0, .int .i64 0] (by first | exact HZ2 | (rw [← HX.out] at HZ2; exact HZ2)) (by kernel_rfl) rfl (by simp [Value.oneCell']) ?_))
  rw [HX.out]
  have HR : Aid.Has ((X.alloc (.cells #[.int .i64 (-1), .string ⟨#[]⟩, .string ⟨#[]⟩, .bool ret, .int .i64 0, .slice A n cap] 45)).setRow w.heap.size #[.slice none 0 0, .slice none 0 0, .slice (some ⟨(w.heap.size + 1), 0, none⟩) 1 1, .slice none 0 0, .string ⟨#[]⟩, .slice none 0 0, .slice none 0 0, .slice none 0 0, .slice none 0 0, .slice none 0 0, .int .i64 0, .int .i64 0]) w.heap.size [.slice none 0 0, .slice none 0 0, .slice (some ⟨(w.heap.size + 1), 0, none⟩) 1 1, .slice none 0 0, .string ⟨#[]⟩, .slice none 0 0, .slice none 0 0, .slice none 0 0, .slice none 0 0, .slice none 0 0, .int .i64 0, .int .i64 0] 35 := row_has (ys := [.slice none 0 0, .slice none 0 0, .slice (some ⟨(w.heap.size + 1), 0, none⟩) 1 1, .slice none 0 0, .string ⟨#[]⟩, .slice none 0 0, .slice none 0 0, .slice none 0 0, .slice none 0 0, .slice none 0 0, .int .i64 0, .int .i64 0]) hz2
  refine bodyPost_ret (v := .agg #[.slice none 0 0, .slice none 0 0, .slice (some ⟨(w.heap.size + 1), 0, none⟩) 1 1, .slice none 0 0, .string ⟨#[]⟩, .slice none 0 0, .slice none 0 0, .slice none 0 0, .slice none 0 0, .slice none 0 0, .int .i64 0, .int .i64 0]) (results_cell_row rfl _ _ w.heap.size 35 #[.slice none 0 0, .slice none 0 0, .slice (some ⟨(w.heap.size + 1), 0, none⟩) 1 1, .slice none 0 0, .string ⟨#[]⟩, .slice none 0 0, .slice none 0 0, .slice none 0 0, .slice none 0 0, .slice none 0 0, .int .i64 0, .int .i64 0] (0, 0) _ rfl HR Tryd.underlying35 rfl (by kernel_rfl)) rfl ?_
  exact ⟨rfl, (row_heap _ _ _ _ (by omega)).trans HC.out, row_below KX.out (Nat.le_refl _) _⟩
theorem oneImg_at {w : World} {d : Nat} {ret : Bool} {A : Option Addr} {ops : List Opr} {cap : Nat} (hd : Aid.Has w d [.int .i64 (-1), .string ⟨#[]⟩, .string ⟨#[]⟩, .bool ret, .int .i64 0, .slice A ops.length cap] 45) (ho : LOps w w.heap.size A ops) : Img.At w w.heap.size (oneImg d (oneCode ret A ops cap)) := by
  refine ⟨⟨Nat.zero_le _, Rows.nil_ _ _ _ _, by simp [oneImg]⟩, ⟨Nat.zero_le _, Rows.nil_ _ _ _ _, by simp [oneImg]⟩, ⟨by show 1 ≤ Lim; unfold Lim; omega, ?_, ?_⟩, ⟨Nat.zero_le _, Rows.nil_ _ _ _ _⟩, ⟨Nat.zero_le _, Rows.nil_ _ _ _ _⟩, ⟨Nat.zero_le _, Rows.nil_ _ _ _ _⟩, ⟨Nat.zero_le _, Rows.nil_ _ _ _ _⟩, ⟨Nat.zero_le _, Rows.nil_ _ _ _ _⟩, ⟨Nat.zero_le _, Rows.nil_ _ _ _ _⟩⟩
  · intro _
    refine ⟨d, 0, rfl, hd.lt, fun i r hi j v hj => ?_⟩
    have hi0 : i = 0 := by have := (List.getElem?_eq_some_iff.1 hi).1; simp [oneImg] at this; exact this
    subst hi0
    obtain rfl : Cod.cells (oneCode ret A ops cap) = r := by simpa [oneImg] using hi
    have := hd.cell j v hj
    simpa using this
  · intro y hy
    obtain rfl : y = (oneCode ret A ops cap) := by simpa [oneImg] using hy
    exact ho
theorem oneImg_sm {d : Nat} {ret : Bool} {A : Option Addr} {ops : List Opr} {cap : Nat} (h : ops.length ≤ 1000) : Fl.Sm (oneImg d (oneCode ret A ops cap)) :=
  ⟨by simp [oneImg], by simp [oneImg], by simp [oneImg], by simp [oneImg], Nat.zero_le _, fun c hc => by
    obtain rfl : c = (oneCode ret A ops cap) := by simpa [oneImg] using hc
    exact ⟨Nat.zero_le _, Nat.zero_le _, h⟩⟩
/-- Check of a code alone. -/
theorem check_one (ret : Bool) (A : Option Addr) (ops : List Opr) (cap d : Nat) (w : World) (hd : Aid.Has w d [.int .i64 (-1), .string ⟨#[]⟩, .string ⟨#[]⟩, .bool ret, .int .i64 0, .slice A ops.length cap] 45) (ho : LOps w w.heap.size A ops) (hl : ops.length ≤ 1000) (ml : Fl.Max w) (r : Option Int) (hr : Fl.Is (oneImg d (oneCode ret A ops cap)) 0 r) :
    Calls Tryd.prog 8 #[.agg #[.slice none 0 0, .slice none 0 0, .slice (some ⟨d, 0, none⟩) 1 1, .slice none 0 0, .string ⟨#[]⟩, .slice none 0 0, .slice none 0 0, .slice none 0 0, .slice none 0 0, .slice none 0 0, .int .i64 0, .int .i64 0], .int .i64 0] w fun e w' => e = .returned (.tuple #[.int .i64 (r.getD 0), .bool r.isSome]) ∧ Below w.heap.size w w' :=
  (check_is (oneImg d (oneCode ret A ops cap)) 0 w.heap.size w (oneImg_at hd ho) (Nat.le_refl _) (oneImg_sm hl) ml).mono fun e w' ⟨⟨r', h1, h2⟩, h3⟩ => ⟨by rw [h2, h1.same hr], h3⟩
/-- Instructions, cell by cell. -/
def flat (l : List Opr) : List Value := (l.map Opr.cells).flatten
theorem flat_app (l m : List Opr) : flat (l ++ m) = flat l ++ flat m := by simp [flat]
theorem flat_len (l : List Opr) : (flat l).length = l.length * 3 := by
  induction l with
  | nil => rfl
  | cons a l ih => simp only [flat, List.map_cons, List.flatten_cons, List.length_append, List.length_cons] at ih ⊢; rw [ih]; simp [Opr.cells]; omega
theorem ops_of_own {w : World} {base c : Nat} {A : Option Addr} {ops : List Opr} (h : w.ownsRow base 25 3 (.slice A ops.length c) ops.length (flat ops)) (hl : ops.length ≤ 1000) : LOps w w.heap.size A ops := by
  refine ⟨by unfold Lim; omega, Rows.of_own (base := base) (e := 25) (c := c) (by intro r hr; obtain ⟨o, _, rfl⟩ := List.mem_map.1 hr; rfl) ?_⟩
  rw [List.length_map]; exact h
theorem LOps.up {w w' : World} {A : Option Addr} {l : List Opr} (h : LOps w w.heap.size A l) (hb : Below w.heap.size w w') : LOps w' w'.heap.size A l := ⟨h.1, (h.2.below hb (Nat.le_refl _)).more hb.size⟩
theorem own_of_has {w : World} {g base e sz n : Nat} {xs : List Value} (h : Aid.Has w g xs e) (hb : base ≤ g) (hl : xs.length = n * sz) (hn : n ≤ 1000) : w.ownsRow base e sz (.slice (some ⟨g, 0, none⟩) n n) n xs :=
  ⟨hl, Or.inr ⟨g, n, xs.toArray, rfl, hb, h, Nat.le_refl _, by unfold maxLen; omega, by simpa using hl, by rw [List.take_of_length_le (by simp [hl])]⟩⟩
theorem awake_good {d cap : Nat} {A : Option Addr} : Fl.Is (oneImg d (oneCode true A [⟨1, 1, 0⟩, ⟨30, 0, 0⟩] cap)) 0 (some 1) := by
  obtain ⟨s, h1, h2, h3, _, _⟩ := start_top (c := oneCode true A [⟨1, 1, 0⟩, ⟨30, 0, 0⟩] cap) (by simp [oneCode])
  have e := h2.one (x := oneImg d (oneCode true A [⟨1, 1, 0⟩, ⟨30, 0, 0⟩] cap)) (c := oneCode true A [⟨1, 1, 0⟩, ⟨30, 0, 0⟩] cap) (o := ⟨1, 1, 0⟩) rfl (after_push _ _ [] 1 (by omega)) (by simp [Fl.Str]) (by simp [tb_size])
  obtain ⟨s1, g1, g2, _, _⟩ := FSt.reach_new (s := { s with td := [], most := max 0 (tb ([] ++ [105])).size }) (i := 0 + 1) (t := tb ([] ++ [105])) (h3 1 (by omega) (by simp [oneCode])) h2.len
  rw [g1] at e
  refine .of rfl h1 (.more h2.td e (g2.ret (o := ⟨30, 0, 0⟩) rfl (after_retv _ _ [] rfl) (Or.inr rfl) rfl ?_))
  exact Runs.done (x := oneImg d (oneCode true A [⟨1, 1, 0⟩, ⟨30, 0, 0⟩] cap)) (c := oneCode true A [⟨1, 1, 0⟩, ⟨30, 0, 0⟩] cap) (s := { s1 with td := [], most := max (max 0 (tb ([] ++ [105])).size) 0 }) rfl
theorem awake_bad {d cap : Nat} {A : Option Addr} : Fl.Is (oneImg d (oneCode true A [⟨1, 1, 0⟩] cap)) 0 none := by
  obtain ⟨s, h1, h2, h3, h4, _⟩ := start_top (c := oneCode true A [⟨1, 1, 0⟩] cap) (by simp [oneCode])
  have e := h2.one (x := oneImg d (oneCode true A [⟨1, 1, 0⟩] cap)) (c := oneCode true A [⟨1, 1, 0⟩] cap) (o := ⟨1, 1, 0⟩) rfl (after_push _ _ [] 1 (by omega)) (by simp [Fl.Str]) (by simp [tb_size])
  rw [FSt.reach_out (s := { s with td := [], most := max 0 (tb ([] ++ [105])).size }) (i := ((0 + 1 : Nat) : Int)) (by show ¬ (_ ∧ _ < (s.kn.length : Int)); rw [h4]; simp [oneCode])] at e
  exact .of rfl h1 (.wrong h2.td e)
set_option maxRecDepth 100000 in
set_option maxHeartbeats 2000000 in
theorem awake_is (w : World) (ml : Fl.Max w) : Calls Tryd.prog 10 #[] w fun e w' => e = .returned (.bool true) ∧ Below w.heap.size w w' := by
  have ML := Aid.hid ml
  have KW : Hid (Below w.heap.size w w) := Aid.hid (Below.refl _ _)
  have hn := Aid.Has.new w [.int .i64 1, .int .i64 1, .int .i64 0, .int .i64 30, .int .i64 0, .int .i64 0] 25
  obtain ⟨X, hX⟩ : ∃ z, w.alloc (.cells #[.int .i64 1, .int .i64 1, .int .i64 0, .int .i64 30, .int .i64 0, .int .i64 0] 25) = z := ⟨_, rfl⟩
  have HN := Aid.hid hn
  have HX := Aid.hid hX
  have hb : Below w.heap.size w X := by rw [← hX]; exact (Below.refl _ _).alloc (Nat.le_refl _) _
  rw [hX] at HN
  have KW := Aid.hid (KW.out.trans (hb.mono KW.out.size))
  have OX := Aid.hid (own_of_has (base := w.heap.size) (n := 2) (sz := 3) HN.out (Nat.le_refl _) rfl (by omega))
  clear hb hn hX ml
  go_enter Tryd.func10, Tryd.ntmps10
  try simp only [List.append_eq, List.cons_append, List.nil_append]
  have HK := Aid.hid (code_is true (some ⟨w.heap.size, 0, none⟩) 2 2 X)
  have HL := Aid.hid (ops_of_own (ops := [⟨1, 1, 0⟩, ⟨30, 0, 0⟩]) (c := 2) OX.out (by decide))
  go_wp2_with fail
  try rw [HX.out]
  go_at_call 9
  refine HK.out.mono ?_
  rintro e u1 ⟨rfl, hd, hb⟩
  have KW := Aid.hid (KW.out.trans (hb.mono KW.out.size))
  have HC := Aid.hid (check_one true (some ⟨w.heap.size, 0, none⟩) [⟨1, 1, 0⟩, ⟨30, 0, 0⟩] 2 _ u1 hd (HL.out.up hb) (by decide) (ML.out.below KW.out) (some 1) awake_good)
  clear hd hb HK HL
  go_wp2_with fail
  go_at_call 8
  refine HC.out.mono ?_
  rintro e v1 ⟨rfl, hb⟩
  have KW := Aid.hid (KW.out.trans (hb.mono KW.out.size))
  clear hb HC
  have hn := Aid.Has.new v1 [.int .i64 1, .int .i64 1, .int .i64 0] 25
  obtain ⟨Y, hY⟩ : ∃ z, v1.alloc (.cells #[.int .i64 1, .int .i64 1, .int .i64 0] 25) = z := ⟨_, rfl⟩
  have HN := Aid.hid hn
  have HY := Aid.hid hY
  have hb : Below v1.heap.size v1 Y := by rw [← hY]; exact (Below.refl _ _).alloc (Nat.le_refl _) _
  rw [hY] at HN
  have KW := Aid.hid (KW.out.trans (hb.mono KW.out.size))
  have OY := Aid.hid (own_of_has (base := v1.heap.size) (n := 1) (sz := 3) HN.out (Nat.le_refl _) rfl (by omega))
  clear hb hn hY
  have HK := Aid.hid (code_is true (some ⟨v1.heap.size, 0, none⟩) 1 1 Y)
  have HL := Aid.hid (ops_of_own (ops := [⟨1, 1, 0⟩]) (c := 1) OY.out (by decide))
  go_wp2_with fail
  try rw [HY.out]
  go_at_call 9
  refine HK.out.mono ?_
  rintro e u2 ⟨rfl, hd, hb⟩
  have KW := Aid.hid (KW.out.trans (hb.mono KW.out.size))
  have HC := Aid.hid (check_one true (some ⟨v1.heap.size, 0, none⟩) [⟨1, 1, 0⟩] 1 _ u2 hd (HL.out.up hb) (by decide) (ML.out.below KW.out) none awake_bad)
  clear hd hb HK HL
  go_wp2_with fail
  go_at_call 8
  refine HC.out.mono ?_
  rintro e v2 ⟨rfl, hb⟩
  have KW := Aid.hid (KW.out.trans (hb.mono KW.out.size))
  clear hb HC
  go_wp2_with fail
  go_ret
  exact ⟨rfl, KW.out⟩
end Go.Proofs.YtcgfabnmkbiogaaDoor
