/- The law TableLines. -/
import Derived.Test.YtjhlcfaakhabfaaTableGrows
import Derived.Test.YtjhlcfaakhabfaaLineL
import Derived.Deep.Cut
import Derived.Laws.Tables
namespace Go.Proofs.Ytjhlcfaakhabfaa
open Go.RowKit

/-- A declaration of the line, with no method, and with one. -/
def Ln.dk0 (i : Nat) (base : ByteArray) (vb : Nat) : Dk := ⟨2, Ln.cn i, base, none, [], 0, false, false, some ⟨vb, 0, none⟩, [Ln.fv i], 1, none, [], 0, none, [], 0, 0, 0⟩
def Ln.dk1 (i : Nat) (base : ByteArray) (vb mb : Nat) : Dk := ⟨2, Ln.cn i, base, none, [], 0, false, false, some ⟨vb, 0, none⟩, [Ln.fv i], 1, some ⟨mb, 0, none⟩, [Ln.md], 1, none, [], 0, 0, 0⟩
theorem Ln.down_len : ∀ (n a : Nat), (Ln.down a n).length = n
  | 0, _ => rfl
  | n + 1, a => by show (Ln.down (a - 1) n).length + 1 = _; rw [Ln.down_len n]
def Ln.fvs (j : Nat) : List Vd := (List.range j).map Ln.fv
theorem Ln.fvs_len (j : Nat) : (Ln.fvs j).length = j := by simp [Ln.fvs]
theorem Ln.fvs_succ (j : Nat) : Ln.fvs (j + 1) = Ln.fvs j ++ [Ln.fv j] := by unfold Ln.fvs; rw [List.range_succ, List.map_append]; rfl
def Ln.At (w : World) (pu : Nat) (d : Dk) : Prop :=
  (∃ i base vb, d = Ln.dk0 i base vb ∧ pu < vb ∧ Aid.Has w vb (Ln.fv i).cells 44) ∨
  (∃ i base vb mb, d = Ln.dk1 i base vb mb ∧ pu < vb ∧ pu < mb ∧ Aid.Has w vb (Ln.fv i).cells 44 ∧ Aid.Has w mb Ln.md.cells 42)
/-- Whatever lies behind pu, and is no declaration, lies as it lay. -/
def Ln.Kp (pu : Nat) (w w' : World) : Prop := ∀ b xs t, pu < b → t ≠ 32 → Aid.Has w b xs t → Aid.Has w' b xs t
theorem Ln.Kp.refl (pu : Nat) (w : World) : Ln.Kp pu w w := fun _ _ _ _ _ h => h
theorem Ln.Kp.trans {pu : Nat} {a b c : World} (h : Ln.Kp pu a b) (k : Ln.Kp pu b c) : Ln.Kp pu a c := fun i xs t h1 h2 h3 => k i xs t h1 h2 (h i xs t h1 h2 h3)
theorem Ln.Kp.alloc {pu : Nat} {a b : World} (h : Ln.Kp pu a b) (o : Obj) : Ln.Kp pu a (b.alloc o) := fun i xs t h1 h2 h3 => (h i xs t h1 h2 h3).alloc o
theorem Ln.Kp.drew {pu : Nat} {a b : World} (h : Ln.Kp pu a b) : Ln.Kp pu a b.drew := fun i xs t h1 h2 h3 => h i xs t h1 h2 h3
theorem Ln.Kp.setPu {pu : Nat} {a b : World} (h : Ln.Kp pu a b) (j : Nat) (v : Value) : Ln.Kp pu a (b.setCell ⟨pu, j, none⟩ v) := fun i xs t h1 h2 h3 => (h i xs t h1 h2 h3).other ⟨pu, j, none⟩ v (by show i ≠ pu; omega)
theorem Ln.Kp.setBox {pu tb : Nat} {a b : World} (h : Ln.Kp pu a b) {ys : List Value} (hb : Aid.Has b tb ys 32) (j : Nat) (v : Value) : Ln.Kp pu a (b.setCell ⟨tb, j, none⟩ v) := fun i xs t h1 h2 h3 =>
  (h i xs t h1 h2 h3).other ⟨tb, j, none⟩ v (fun e => by
    have e' : i = tb := e
    subst e'
    have h4 := (show b.heap[i]? = _ from h i xs t h1 h2 h3).symm.trans hb
    simp at h4
    exact h2 h4.2)
theorem Ln.Kp.grown {pu : Nat} {a b c : World} (h : Ln.Kp pu a b) {base n : Nat} {v : Value} {ys : List Value} (ho : b.ownsRow base 32 11 v n ys) (hg : b.grownBy c v.ownBlock) : Ln.Kp pu a c := fun i xs t h1 h2 h3 => by
  have h4 := h i xs t h1 h2 h3
  refine (hg.block i h4.lt (fun e => ?_)).trans h4
  rcases ho.2 with ⟨rfl, _⟩ | ⟨g, cap, cur, rfl, _, hgb, _⟩
  · simp [Value.ownBlock] at e
  · obtain rfl : i = g := by simpa [Value.ownBlock] using e
    have h5 := (show b.heap[i]? = _ from h4).symm.trans hgb
    simp at h5
    exact h2 h5.2
theorem Ln.At.kept {pu : Nat} {w w' : World} {d : Dk} (h : Ln.At w pu d) (k : Ln.Kp pu w w') : Ln.At w' pu d := by
  rcases h with ⟨i, base, vb, h1, h2, h3⟩ | ⟨i, base, vb, mb, h1, h2, h3, h4, h5⟩
  · exact Or.inl ⟨i, base, vb, h1, h2, k _ _ _ h2 (by decide) h3⟩
  · exact Or.inr ⟨i, base, vb, mb, h1, h2, h3, k _ _ _ h2 (by decide) h4, k _ _ _ h3 (by decide) h5⟩
theorem Ln.row1 {w : World} {b t : Nat} {xs : List Value} {sz : Nat} (h : Aid.Has w b xs t) : Rows w w.heap.size sz (some ⟨b, 0, none⟩) [xs] := fun _ =>
  ⟨b, 0, rfl, h.lt, fun i r hr j v hv => by
    match i, hr with
    | 0, hr =>
      obtain rfl : xs = r := by simpa using hr
      simpa using h.cell j v hv⟩
theorem Ln.mdAt (w : World) (B : Nat) : MdAt w B Ln.md := ⟨Rows.nil_ _ _ _ _, Rows.nil_ _ _ _ _, Nat.zero_le _, Nat.zero_le _, ⟨0, rfl⟩⟩
theorem Ln.At.dk {pu : Nat} {w : World} {d : Dk} (h : Ln.At w pu d) : DkAt w w.heap.size d := by
  rcases h with ⟨i, base, vb, rfl, h2, h3⟩ | ⟨i, base, vb, mb, rfl, h2, h3, h4, h5⟩
  · exact ⟨Rows.nil_ _ _ _ _, Ln.row1 h3, Rows.nil_ _ _ _ _, (fun m hm => by cases hm), Nat.zero_le _, by show (1 : Nat) ≤ _; omega, Nat.zero_le _, ⟨0, rfl⟩⟩
  · refine ⟨Rows.nil_ _ _ _ _, Ln.row1 h4, Ln.row1 h5, (fun m hm => ?_), Nat.zero_le _, by show (1 : Nat) ≤ _; omega, by show (1 : Nat) ≤ _; omega, ⟨0, rfl⟩⟩
    obtain rfl : m = Ln.md := by simpa [Ln.dk1] using hm
    exact Ln.mdAt _ _
theorem Ln.is0 {own i vb : Nat} {base : ByteArray} (h0 : i = 0 → base = ⟨#[]⟩) (h1 : ∀ q, i = q + 1 → base = Ln.cn q) (hn : ¬ (i = own ∨ i = 0)) : Ln.Is own i (Ln.dk0 i base vb) := ⟨rfl, rfl, h0, h1, rfl, rfl, fun h => absurd h hn, fun _ => rfl⟩
theorem Ln.is1 {own i vb mb : Nat} {base : ByteArray} (h0 : i = 0 → base = ⟨#[]⟩) (h1 : ∀ q, i = q + 1 → base = Ln.cn q) (hn : i = own ∨ i = 0) : Ln.Is own i (Ln.dk1 i base vb mb) := ⟨rfl, rfl, h0, h1, rfl, rfl, fun _ => rfl, fun h => absurd hn h⟩
theorem Ln.Line.snoc {own : Nat} {l : List Dk} {d : Dk} (h : Ln.Line own l) (hd : Ln.Is own l.length d) : Ln.Line own (l ++ [d]) := fun i e he => by
  rcases Nat.lt_or_ge i l.length with hi | hi
  · rw [List.getElem?_append_left hi] at he; exact h i e he
  · rw [List.getElem?_append_right hi] at he
    have h0 : i - l.length = 0 := by
      have := (List.getElem?_eq_some_iff.1 he).1
      simp at this; omega
    rw [h0] at he
    obtain rfl : d = e := by simpa using he
    obtain rfl : i = l.length := by omega
    exact hd
theorem row_heap (w : World) (g : Nat) (cs : Array Value) (k : Nat) (h : k ≠ g) : (w.setRow g cs).heap[k]? = w.heap[k]? := by
  simp [World.setRow, Array.getElem?_modify, Ne.symm h]
theorem row_has {w : World} {g : Nat} {xs ys : List Value} {t : TypeId} (h : Aid.Has w g xs t) : Aid.Has (w.setRow g ys.toArray) g ys t := by
  unfold Aid.Has at h ⊢; simp [World.setRow, Array.getElem?_modify, h]
theorem row_other {w : World} {g b : Nat} {xs : List Value} {t : TypeId} (h : Aid.Has w b xs t) (cs : Array Value) (hne : b ≠ g) : Aid.Has (w.setRow g cs) b xs t := (row_heap w g cs b hne).trans h
theorem row_own {w : World} {base e sz n g : Nat} {v : Value} {xs : List Value} (h : w.ownsRow base e sz v n xs) (hb : ∀ q, v.ownBlock = some q → q ≠ g) (cs : Array Value) : (w.setRow g cs).ownsRow base e sz v n xs := by
  rcases h with ⟨h1, h2 | ⟨q, cp, cur, p1, p2, p3, p4⟩⟩
  · exact ⟨h1, Or.inl h2⟩
  · exact ⟨h1, Or.inr ⟨q, cp, cur, p1, p2, (row_heap w g cs q (hb q (by rw [p1]; rfl))).trans p3, p4⟩⟩
theorem row_below {B g : Nat} {a w : World} (h : Below B a w) (hg : B ≤ g) (cs : Array Value) : Below B a (w.setRow g cs) :=
  ⟨h.os, h.tape, h.output, by have := h.size; simpa [World.setRow] using this, fun k hk => (row_heap w g cs k (by omega)).trans (h.block k hk)⟩
theorem own_other {w : World} {base e sz n b : Nat} {v : Value} {xs : List Value} (h : w.ownsRow base e sz v n xs) (hb : ∀ q, v.ownBlock = some q → q ≠ b) (j : Nat) (x : Value) : (w.setCell ⟨b, j, none⟩ x).ownsRow base e sz v n xs := by
  rcases h with ⟨h1, h2 | ⟨g, cp, cur, p1, p2, p3, p4⟩⟩
  · exact ⟨h1, Or.inl h2⟩
  · exact ⟨h1, Or.inr ⟨g, cp, cur, p1, p2, (Below.heap_setCell w ⟨b, j, none⟩ x g (hb g (by rw [p1]; rfl))).trans p3, p4⟩⟩
theorem wp_cut {P : Program} {c : Code} {a : Act} {w : World} {Q : Exit → Act → World → Prop} (M : Act → Exit → Act → World → Prop) (h1 : c.wp P (M a) a w) (h2 : ∀ e a' w', M a e a' w' → Q e a' w') : c.wp P Q a w := Code.wp_mono h2 h1
/-- What the declaration's building leaves: its box, its variable's block, and all else as it was. -/
def Ln.Mid (a0 : Act) (pu n : Nat) (l : List Dk) (A : Option Addr) (c : Nat) (wr w : World) (e : Exit) (a' : Act) (w' : World) : Prop :=
  e = .normal ∧ ∃ tb vb, a' = putL a0 [(35, .int .i64 (n : Int)), (36, .int .i64 (n : Int)), (37, .int .i64 (IntKind.i64.wrap ((n : Int) + 1))), (38, .string (Ln.dg n)), (39, .string (Ln.cn n)), (40, .int .i64 (n : Int)), (41, .int .i64 (n : Int)), (42, .int .i64 (IntKind.i64.wrap ((n : Int) + 1))), (43, .string (Ln.dg n)), (44, .string (Ln.fn n)), (45, .int .i64 (n : Int)), (46, .agg (Ln.fv n).cells.toArray), (47, .slice (some ⟨vb, 0, none⟩) 1 1), (48, .agg #[.int .i64 2, .string (Ln.cn n), .string ⟨#[]⟩, .slice none 0 0, .bool false, .bool false, .slice (some ⟨vb, 0, none⟩) 1 1, .slice none 0 0, .slice none 0 0, .int .i64 0, .int .i64 0]), (9, .pointer (some ⟨tb, 0, none⟩))] ∧ Aid.Has w' tb [.int .i64 2, .string (Ln.cn n), .string ⟨#[]⟩, .slice none 0 0, .bool false, .bool false, .slice (some ⟨vb, 0, none⟩) 1 1, .slice none 0 0, .slice none 0 0, .int .i64 0, .int .i64 0] 32 ∧ Ln.Kp pu wr w' ∧ Aid.Has w' pu [.slice A n c] 24 ∧ Aid.Has w' vb (Ln.fv n).cells 44 ∧
    w'.ownsRow (pu + 1) 32 11 (.slice A n c) n (l.map Dk.cells).flatten ∧ Below w.heap.size w w' ∧ pu < tb ∧ pu < vb ∧ w.heap.size ≤ tb ∧ (∀ q, (Value.slice A n c).ownBlock = some q → q ≠ tb) ∧ vb ≠ tb
theorem Ln.Kp.setRow {pu tb : Nat} {a b : World} (h : Ln.Kp pu a b) {ys : List Value} (hb : Aid.Has b tb ys 32) (cs : Array Value) : Ln.Kp pu a (b.setRow tb cs) := fun i xs t h1 h2 h3 =>
  row_other (h i xs t h1 h2 h3) cs (fun e => by
    subst e
    have h4 := (show b.heap[i]? = _ from h i xs t h1 h2 h3).symm.trans hb
    simp at h4
    exact h2 h4.2)
set_option maxRecDepth 100000 in
set_option maxHeartbeats 4000000 in
theorem tableLines_main (x y z : Int) (w : World) (nm M na no : Nat) (hm : low x 10 = nm) (hm2 : nm + 1 = M) (hm3 : M ≤ 10) (ha : low y M = na) (ha2 : na < M) (ho : low z M = no) (ho2 : no < M) :
    Calls Try.prog 6 #[.int .i64 x, .int .i64 y, .int .i64 z] w fun e w' => e = .returned (.bool true) ∧ Below w.heap.size w w' := by
  have LM := Aid.hid hm; have LA := Aid.hid ha; have LO := Aid.hid ho
  have E1 : Hid ((1 : Int) + nm = M) := Aid.hid (by omega)
  have hm4 : nm < 10 := by omega
  have hm5 : 0 < M := by omega
  clear hm ha ho hm2
  obtain ⟨i0, hi, hz0, hz1, hz2⟩ := info_parts info_decl
  have HB1 : Below w.heap.size w (w.alloc (.cells #[.slice none 0 0] 24)) := (Below.refl _ _).alloc (Nat.le_refl _) _
  have P0 : Aid.Has (w.alloc (.cells #[.slice none 0 0] 24)) w.heap.size [.slice none 0 0] 24 := Aid.Has.new w [.slice none 0 0] 24
  go_enter Try.func6, Try.ntmps6
  try simp only [List.append_eq, List.cons_append, List.nil_append]
  go_wp2_with fail
  refine (low_is x 10 nm LM.out (by omega) (by omega) _).mono ?_; rintro e w2 ⟨rfl, rfl⟩
  go_wp2_with fail
  rw [E1.out]
  refine (low_is y M na LA.out (by omega) (by omega) _).mono ?_; rintro e w2 ⟨rfl, rfl⟩
  go_wp2_with fail
  refine (low_is z M no LO.out (by omega) (by omega) _).mono ?_; rintro e w2 ⟨rfl, rfl⟩
  go_wp2_with fail
  obtain ⟨pu, hpu⟩ : ∃ p, w.heap.size = p := ⟨_, rfl⟩
  generalize w.alloc (.cells #[.slice none 0 0] 24) = W at *
  rw [hpu] at P0 ⊢
  have HPU := Aid.hid hpu
  clear hpu
  go_loopw [8] (fun vi wr => ∃ (l : List Dk) (A : Option Addr) (c : Nat), vi = .int .i64 l.length ∧ l.length ≤ M ∧ Hid (Ln.Line no l) ∧ Hid (∀ d ∈ l, Ln.At wr pu d) ∧ Hid (Aid.Has wr pu [.slice A l.length c] 24) ∧
    Hid (wr.ownsRow (pu + 1) 32 11 (.slice A l.length c) l.length (l.map Dk.cells).flatten) ∧ Hid (Below w.heap.size w wr) ∧ Hid (pu + 1 ≤ wr.heap.size)) (fun vi _ => M - (intOf vi).toNat)
  case atStart => exact ⟨[], none, 0, rfl, Nat.zero_le _, Aid.hid (fun i d h => by simp at h), Aid.hid (fun d h => by cases h), Aid.hid P0, Aid.hid (World.ownsRow_nil _ _ _ _), Aid.hid HB1, Aid.hid P0.lt⟩
  case round =>
    clear P0 HB1
    obtain ⟨l, A, c, rfl, hk, LL, LD, HP, HO, HB, HS⟩ := hrel
    obtain ⟨n, hn⟩ : ∃ n, l.length = n := ⟨_, rfl⟩
    have HN := Aid.hid hn
    rw [hn] at HP HO hk ⊢
    clear hn
    by_cases hlt : n < M
    · have hmx : Try.prog.follows .mixedOrders = true := by kernel_rfl
      have l10 : n < 10 := by omega
      have W1 : Hid (IntKind.i64.wrap ((n : Int) + 1) = (n : Int) + 1) := Aid.hid (by rw [IntKind.wrap_i64]; omega)
      have C1 : Hid (0 ≤ (n : Int) + 1 ∧ (n : Int) + 1 ≤ 10) := Aid.hid (by omega)
      have N1 : Hid (¬ (9223372036854775807 < 1 + (min (n + 1) 10 - n))) := Aid.hid (by omega)
      have C2 : Hid ((n : Int) ≤ (n : Int) + 1) := Aid.hid (by omega)
      have T1 : Hid (((n : Int) + 1).toNat = n + 1) := Aid.hid (by omega)
      go_wp2_with fail
      refine wp_cut (fun a0 => Ln.Mid a0 pu n l A c wr w) ?_ ?_
      rotate_left
      · rintro e a' w7 ⟨rfl, tb, vb, rfl, TB, KP, HPz, VB, HOz, HBz, f1, f2, f5, f3, f4⟩
        simp only [putL, Act.put, List.setIfInBounds_toArray, List.set_cons_zero, List.set_cons_succ]
        have zw : w.heap.size ≤ w7.heap.size := HBz.size
        have tbw : tb ≠ w7.heap.size := by have := TB.lt; omega
        rcases n with _ | q
        · by_cases hno : no = 0
          · have g3 : ((0 : Int) == (no : Int)) = true := by simp [hno]
            have HNO := Aid.hid hno
            clear hno
            have tz7 : ((w7).alloc (.cells #[.string ⟨#[109]⟩, .bool false, .bool false, .bool false, .slice none 0 0, .int .i64 0, .int .i64 0, .int .i64 0, .string ⟨#[]⟩, .slice none 0 0, .slice none 0 0] 42)).cell? ⟨tb, 7, none⟩ = some (.slice none 0 0) := (TB.alloc _).cell 7 _ rfl
            have tf7 : ((w7).alloc (.cells #[.string ⟨#[109]⟩, .bool false, .bool false, .bool false, .slice none 0 0, .int .i64 0, .int .i64 0, .int .i64 0, .string ⟨#[]⟩, .slice none 0 0, .slice none 0 0] 42)).frozen? ⟨tb, 7, none⟩ = false := (TB.alloc _).frozen 7
            have MBX : Aid.Has (((w7).setCell ⟨tb, 7, none⟩ (.slice (some ⟨w7.heap.size, 0, none⟩) 1 1)).alloc (.cells #[.string ⟨#[109]⟩, .bool false, .bool false, .bool false, .slice none 0 0, .int .i64 0, .int .i64 0, .int .i64 0, .string ⟨#[]⟩, .slice none 0 0, .slice none 0 0] 42)) w7.heap.size Ln.md.cells 42 := by have h := Aid.Has.new ((w7).setCell ⟨tb, 7, none⟩ (.slice (some ⟨w7.heap.size, 0, none⟩) 1 1)) Ln.md.cells 42; rw [show ((w7).setCell ⟨tb, 7, none⟩ (.slice (some ⟨w7.heap.size, 0, none⟩) 1 1)).heap.size = w7.heap.size by simp [World.setCell]] at h; exact h
            have TBX : Aid.Has (((w7).setCell ⟨tb, 7, none⟩ (.slice (some ⟨w7.heap.size, 0, none⟩) 1 1)).alloc (.cells #[.string ⟨#[109]⟩, .bool false, .bool false, .bool false, .slice none 0 0, .int .i64 0, .int .i64 0, .int .i64 0, .string ⟨#[]⟩, .slice none 0 0, .slice none 0 0] 42)) tb [.int .i64 2, .string (Ln.cn (0)), .string ⟨#[]⟩, .slice none 0 0, .bool false, .bool false, .slice (some ⟨vb, 0, none⟩) 1 1, .slice (some ⟨w7.heap.size, 0, none⟩) 1 1, .slice none 0 0, .int .i64 0, .int .i64 0] 32 := ((TB.set 7 (.slice (some ⟨w7.heap.size, 0, none⟩) 1 1)).alloc (.cells #[.string ⟨#[109]⟩, .bool false, .bool false, .bool false, .slice none 0 0, .int .i64 0, .int .i64 0, .int .i64 0, .string ⟨#[]⟩, .slice none 0 0, .slice none 0 0] 42))
            have HPX : Aid.Has (((w7).setCell ⟨tb, 7, none⟩ (.slice (some ⟨w7.heap.size, 0, none⟩) 1 1)).alloc (.cells #[.string ⟨#[109]⟩, .bool false, .bool false, .bool false, .slice none 0 0, .int .i64 0, .int .i64 0, .int .i64 0, .string ⟨#[]⟩, .slice none 0 0, .slice none 0 0] 42)) pu [.slice A (0) c] 24 := ((HPz.other ⟨tb, 7, none⟩ (.slice (some ⟨w7.heap.size, 0, none⟩) 1 1) (by show pu ≠ tb; omega)).alloc (.cells #[.string ⟨#[109]⟩, .bool false, .bool false, .bool false, .slice none 0 0, .int .i64 0, .int .i64 0, .int .i64 0, .string ⟨#[]⟩, .slice none 0 0, .slice none 0 0] 42))
            have HOX : World.ownsRow (((w7).setCell ⟨tb, 7, none⟩ (.slice (some ⟨w7.heap.size, 0, none⟩) 1 1)).alloc (.cells #[.string ⟨#[109]⟩, .bool false, .bool false, .bool false, .slice none 0 0, .int .i64 0, .int .i64 0, .int .i64 0, .string ⟨#[]⟩, .slice none 0 0, .slice none 0 0] 42)) (pu + 1) 32 11 (.slice A (0) c) (0) (l.map Dk.cells).flatten := ((own_other HOz f3 7 (.slice (some ⟨w7.heap.size, 0, none⟩) 1 1)).alloc (.cells #[.string ⟨#[109]⟩, .bool false, .bool false, .bool false, .slice none 0 0, .int .i64 0, .int .i64 0, .int .i64 0, .string ⟨#[]⟩, .slice none 0 0, .slice none 0 0] 42))
            have HBX : Below w.heap.size w (((w7).setCell ⟨tb, 7, none⟩ (.slice (some ⟨w7.heap.size, 0, none⟩) 1 1)).alloc (.cells #[.string ⟨#[109]⟩, .bool false, .bool false, .bool false, .slice none 0 0, .int .i64 0, .int .i64 0, .int .i64 0, .string ⟨#[]⟩, .slice none 0 0, .slice none 0 0] 42)) := ((HBz.setCell (p := ⟨tb, 7, none⟩) f5 (.slice (some ⟨w7.heap.size, 0, none⟩) 1 1)).alloc (by simpa [World.setCell] using zw) (.cells #[.string ⟨#[109]⟩, .bool false, .bool false, .bool false, .slice none 0 0, .int .i64 0, .int .i64 0, .int .i64 0, .string ⟨#[]⟩, .slice none 0 0, .slice none 0 0] 42))
            have VBX : Aid.Has (((w7).setCell ⟨tb, 7, none⟩ (.slice (some ⟨w7.heap.size, 0, none⟩) 1 1)).alloc (.cells #[.string ⟨#[109]⟩, .bool false, .bool false, .bool false, .slice none 0 0, .int .i64 0, .int .i64 0, .int .i64 0, .string ⟨#[]⟩, .slice none 0 0, .slice none 0 0] 42)) vb (Ln.fv (0)).cells 44 := ((VB.other ⟨tb, 7, none⟩ (.slice (some ⟨w7.heap.size, 0, none⟩) 1 1) (by show vb ≠ tb; omega)).alloc (.cells #[.string ⟨#[109]⟩, .bool false, .bool false, .bool false, .slice none 0 0, .int .i64 0, .int .i64 0, .int .i64 0, .string ⟨#[]⟩, .slice none 0 0, .slice none 0 0] 42))
            have KPX : Ln.Kp pu wr (((w7).setCell ⟨tb, 7, none⟩ (.slice (some ⟨w7.heap.size, 0, none⟩) 1 1)).alloc (.cells #[.string ⟨#[109]⟩, .bool false, .bool false, .bool false, .slice none 0 0, .int .i64 0, .int .i64 0, .int .i64 0, .string ⟨#[]⟩, .slice none 0 0, .slice none 0 0] 42)) := ((KP.setBox TB 7 (.slice (some ⟨w7.heap.size, 0, none⟩) 1 1)).alloc (.cells #[.string ⟨#[109]⟩, .bool false, .bool false, .bool false, .slice none 0 0, .int .i64 0, .int .i64 0, .int .i64 0, .string ⟨#[]⟩, .slice none 0 0, .slice none 0 0] 42))
            have dx0 := TBX.cell 0 _ rfl
            have dx1 := TBX.cell 1 _ rfl
            have dx2 := TBX.cell 2 _ rfl
            have dx3 := TBX.cell 3 _ rfl
            have dx4 := TBX.cell 4 _ rfl
            have dx5 := TBX.cell 5 _ rfl
            have dx6 := TBX.cell 6 _ rfl
            have dx7 := TBX.cell 7 _ rfl
            have dx8 := TBX.cell 8 _ rfl
            have dx9 := TBX.cell 9 _ rfl
            have dx10 := TBX.cell 10 _ rfl
            have px := HPX.cell 0 _ rfl
            have fz7 : pu < w7.heap.size := HPz.lt
            have tbl : tb < w7.heap.size := TB.lt
            clear TB HPz HOz HBz KP VB
            have hsz : (((w7).setCell ⟨tb, 7, none⟩ (.slice (some ⟨w7.heap.size, 0, none⟩) 1 1)).alloc (.cells #[.string ⟨#[109]⟩, .bool false, .bool false, .bool false, .slice none 0 0, .int .i64 0, .int .i64 0, .int .i64 0, .string ⟨#[]⟩, .slice none 0 0, .slice none 0 0] 42)).heap.size = w7.heap.size + 1 := by simp [World.setCell]
            have bc : ∀ (j : Nat) (x : Value), [.int .i64 2, .string (Ln.cn (0)), .string ⟨#[]⟩, .slice none 0 0, .bool false, .bool false, .slice (some ⟨vb, 0, none⟩) 1 1, .slice (some ⟨w7.heap.size, 0, none⟩) 1 1, .slice none 0 0, .int .i64 0, .int .i64 0][j]? = some x → (World.alloc (((w7).setCell ⟨tb, 7, none⟩ (.slice (some ⟨w7.heap.size, 0, none⟩) 1 1)).alloc (.cells #[.string ⟨#[109]⟩, .bool false, .bool false, .bool false, .slice none 0 0, .int .i64 0, .int .i64 0, .int .i64 0, .string ⟨#[]⟩, .slice none 0 0, .slice none 0 0] 42)) (.cells #[.int .i64 2, .string (Ln.cn (0)), .string ⟨#[]⟩, .slice none 0 0, .bool false, .bool false, .slice (some ⟨vb, 0, none⟩) 1 1, .slice (some ⟨w7.heap.size, 0, none⟩) 1 1, .slice none 0 0, .int .i64 0, .int .i64 0] 32)).cell? (Addr.add ⟨w7.heap.size + 1, 0, none⟩ j) = some x := fun j x hj => by
              rw [Go.WideShapes.add_plain, Nat.zero_add, ← hsz]
              exact (Aid.Has.new (((w7).setCell ⟨tb, 7, none⟩ (.slice (some ⟨w7.heap.size, 0, none⟩) 1 1)).alloc (.cells #[.string ⟨#[109]⟩, .bool false, .bool false, .bool false, .slice none 0 0, .int .i64 0, .int .i64 0, .int .i64 0, .string ⟨#[]⟩, .slice none 0 0, .slice none 0 0] 42)) [.int .i64 2, .string (Ln.cn (0)), .string ⟨#[]⟩, .slice none 0 0, .bool false, .bool false, .slice (some ⟨vb, 0, none⟩) 1 1, .slice (some ⟨w7.heap.size, 0, none⟩) 1 1, .slice none 0 0, .int .i64 0, .int .i64 0] 32).cell j x hj
            have pz : pu + 1 ≤ (World.alloc (((w7).setCell ⟨tb, 7, none⟩ (.slice (some ⟨w7.heap.size, 0, none⟩) 1 1)).alloc (.cells #[.string ⟨#[109]⟩, .bool false, .bool false, .bool false, .slice none 0 0, .int .i64 0, .int .i64 0, .int .i64 0, .string ⟨#[]⟩, .slice none 0 0, .slice none 0 0] 42)) (.cells #[.int .i64 2, .string (Ln.cn (0)), .string ⟨#[]⟩, .slice none 0 0, .bool false, .bool false, .slice (some ⟨vb, 0, none⟩) 1 1, .slice (some ⟨w7.heap.size, 0, none⟩) 1 1, .slice none 0 0, .int .i64 0, .int .i64 0] 32)).heap.size := by rw [World.size_alloc, hsz]; omega
            have n10 : 0 ≤ 10 := by omega
            go_wp2_with (at_builtin; refine wpList_append_own _ rfl _ _ 22 rfl (pu + 1) 32 i0 (.agg #[.int .i64 0, .string ⟨#[]⟩, .string ⟨#[]⟩, .slice none 0 0, .bool false, .bool false, .slice none 0 0, .slice none 0 0, .slice none 0 0, .int .i64 0, .int .i64 0]) 11 160 Try.underlying22 hi hz0 hz1 hz2 rfl (by decide) _ _ _ rfl (HOX.alloc _) ⟨w7.heap.size + 1, 0, none⟩ 1 1 [.int .i64 2, .string (Ln.cn (0)), .string ⟨#[]⟩, .slice none 0 0, .bool false, .bool false, .slice (some ⟨vb, 0, none⟩) 1 1, .slice (some ⟨w7.heap.size, 0, none⟩) 1 1, .slice none 0 0, .int .i64 0, .int .i64 0] rfl rfl bc ?d1 ?d2 ?d3 pz ?_)
            case d1 => exact fun u hu => List.all_eq_true.1 (show List.all [.int .i64 2, .string (Ln.cn (0)), .string ⟨#[]⟩, .slice none 0 0, .bool false, .bool false, .slice (some ⟨vb, 0, none⟩) 1 1, .slice (some ⟨w7.heap.size, 0, none⟩) 1 1, .slice none 0 0, .int .i64 0, .int .i64 0] Value.oneCell' = true from rfl) u hu
            case d2 => unfold maxLen; omega
            case d3 => omega
            · intro v2 w9 hown2 hgrow2 _
              obtain ⟨A2, c2, rfl⟩ := own_slice hown2
              have hlo : ∀ qq, (Value.slice A (0) c).ownBlock = some qq → pu + 1 ≤ qq := fun qq hq => (HOX.lt qq hq).1
              have HP9 : Aid.Has w9 pu [.slice A (0) c] 24 := (hgrow2.block pu (by rw [World.size_alloc, hsz]; omega) (fun e => by have := hlo pu e.symm; omega)).trans (HPX.alloc _)
              have K9 : Ln.Kp pu (((w7).setCell ⟨tb, 7, none⟩ (.slice (some ⟨w7.heap.size, 0, none⟩) 1 1)).alloc (.cells #[.string ⟨#[109]⟩, .bool false, .bool false, .bool false, .slice none 0 0, .int .i64 0, .int .i64 0, .int .i64 0, .string ⟨#[]⟩, .slice none 0 0, .slice none 0 0] 42)) (w9.setCell ⟨pu, 0, none⟩ (.slice A2 (0 + 1) c2)) := (((Ln.Kp.refl pu (((w7).setCell ⟨tb, 7, none⟩ (.slice (some ⟨w7.heap.size, 0, none⟩) 1 1)).alloc (.cells #[.string ⟨#[109]⟩, .bool false, .bool false, .bool false, .slice none 0 0, .int .i64 0, .int .i64 0, .int .i64 0, .string ⟨#[]⟩, .slice none 0 0, .slice none 0 0] 42))).alloc (.cells #[.int .i64 2, .string (Ln.cn (0)), .string ⟨#[]⟩, .slice none 0 0, .bool false, .bool false, .slice (some ⟨vb, 0, none⟩) 1 1, .slice (some ⟨w7.heap.size, 0, none⟩) 1 1, .slice none 0 0, .int .i64 0, .int .i64 0] 32)).grown (HOX.alloc _) hgrow2).setPu 0 (.slice A2 (0 + 1) c2)
              have HP10 := Aid.hid (HP9.set 0 (.slice A2 (0 + 1) c2))
              have HO10 := Aid.hid (own_other hown2 (fun qq hq => by have := (hown2.lt qq hq).1; omega : ∀ qq, (Value.slice A2 (0 + 1) c2).ownBlock = some qq → qq ≠ pu) 0 (.slice A2 (0 + 1) c2))
              have HB10 := Aid.hid (((HBX.alloc (by rw [hsz]; omega) (.cells #[.int .i64 2, .string (Ln.cn (0)), .string ⟨#[]⟩, .slice none 0 0, .bool false, .bool false, .slice (some ⟨vb, 0, none⟩) 1 1, .slice (some ⟨w7.heap.size, 0, none⟩) 1 1, .slice none 0 0, .int .i64 0, .int .i64 0] 32)).grown hgrow2 (by rw [World.size_alloc, hsz]; omega) (fun qq hq => by have := hlo qq hq; have := HPU.out; omega)).setCell (p := ⟨pu, 0, none⟩) (by show w.heap.size ≤ pu; have := HPU.out; omega) (.slice A2 (0 + 1) c2))
              have AD : Hid (Ln.At (w9.setCell ⟨pu, 0, none⟩ (.slice A2 (0 + 1) c2)) pu (Ln.dk1 (0) ⟨#[]⟩ vb w7.heap.size)) := Aid.hid (Or.inr ⟨_, _, _, _, rfl, f2, fz7, K9 _ _ _ f2 (by decide) VBX, K9 _ _ _ fz7 (by decide) MBX⟩)
              have AL : Hid (∀ e ∈ l ++ [(Ln.dk1 (0) ⟨#[]⟩ vb w7.heap.size)], Ln.At (w9.setCell ⟨pu, 0, none⟩ (.slice A2 (0 + 1) c2)) pu e) := Aid.hid (fun e he => by
                rcases List.mem_append.1 he with h | h
                · exact (LD.out e h).kept (KPX.trans K9)
                · obtain rfl : e = (Ln.dk1 (0) ⟨#[]⟩ vb w7.heap.size) := by simpa using h
                  exact AD.out)
              have LN2 : Hid ((l ++ [(Ln.dk1 (0) ⟨#[]⟩ vb w7.heap.size)]).length = 0 + 1) := Aid.hid (by rw [List.length_append, HN.out]; rfl)
              have LI : Hid (Ln.Line no (l ++ [(Ln.dk1 (0) ⟨#[]⟩ vb w7.heap.size)])) := Aid.hid (LL.out.snoc (by rw [HN.out]; exact Ln.is1 (fun _ => rfl) (fun q' h => by omega) (Or.inr rfl)))
              have ED : Hid (((l ++ [(Ln.dk1 (0) ⟨#[]⟩ vb w7.heap.size)]).map Dk.cells).flatten = (l.map Dk.cells).flatten ++ [.int .i64 2, .string (Ln.cn (0)), .string ⟨#[]⟩, .slice none 0 0, .bool false, .bool false, .slice (some ⟨vb, 0, none⟩) 1 1, .slice (some ⟨w7.heap.size, 0, none⟩) 1 1, .slice none 0 0, .int .i64 0, .int .i64 0]) := Aid.hid (by rw [List.map_append, List.flatten_append]; rfl)
              have S10 : Hid (pu + 1 ≤ (w9.setCell ⟨pu, 0, none⟩ (.slice A2 (0 + 1) c2)).heap.size) := Aid.hid (by have := HP9.lt; simp [World.setCell]; omega)
              have hp9 := HP9.cell 0 _ rfl
              have hpf := HP9.frozen 0
              clear hown2 hgrow2 HPX HOX HBX VBX KPX K9 MBX TBX bc HP9 px dx0 dx1 dx2 dx3 dx4 dx5 dx6 dx7 dx8 dx9 dx10
              go_wp2_with fail
              go_roundw
              case rel => exact ⟨l ++ [(Ln.dk1 (0) ⟨#[]⟩ vb w7.heap.size)], A2, c2, by rw [LN2.out]; first | rfl | go_num | simp, by rw [LN2.out]; omega, LI, AL, Aid.hid (by rw [LN2.out]; exact HP10.out), Aid.hid (by rw [LN2.out, ED.out]; exact HO10.out), HB10, S10⟩
              case measure => simp [intOf]; omega
          · have g3 : ((0 : Int) == (no : Int)) = false := by simpa using fun h : (0 : Int) = no => hno (by omega)
            clear hno
            have tz7 : ((w7).alloc (.cells #[.string ⟨#[109]⟩, .bool false, .bool false, .bool false, .slice none 0 0, .int .i64 0, .int .i64 0, .int .i64 0, .string ⟨#[]⟩, .slice none 0 0, .slice none 0 0] 42)).cell? ⟨tb, 7, none⟩ = some (.slice none 0 0) := (TB.alloc _).cell 7 _ rfl
            have tf7 : ((w7).alloc (.cells #[.string ⟨#[109]⟩, .bool false, .bool false, .bool false, .slice none 0 0, .int .i64 0, .int .i64 0, .int .i64 0, .string ⟨#[]⟩, .slice none 0 0, .slice none 0 0] 42)).frozen? ⟨tb, 7, none⟩ = false := (TB.alloc _).frozen 7
            have MBX : Aid.Has (((w7).setCell ⟨tb, 7, none⟩ (.slice (some ⟨w7.heap.size, 0, none⟩) 1 1)).alloc (.cells #[.string ⟨#[109]⟩, .bool false, .bool false, .bool false, .slice none 0 0, .int .i64 0, .int .i64 0, .int .i64 0, .string ⟨#[]⟩, .slice none 0 0, .slice none 0 0] 42)) w7.heap.size Ln.md.cells 42 := by have h := Aid.Has.new ((w7).setCell ⟨tb, 7, none⟩ (.slice (some ⟨w7.heap.size, 0, none⟩) 1 1)) Ln.md.cells 42; rw [show ((w7).setCell ⟨tb, 7, none⟩ (.slice (some ⟨w7.heap.size, 0, none⟩) 1 1)).heap.size = w7.heap.size by simp [World.setCell]] at h; exact h
            have TBX : Aid.Has (((w7).setCell ⟨tb, 7, none⟩ (.slice (some ⟨w7.heap.size, 0, none⟩) 1 1)).alloc (.cells #[.string ⟨#[109]⟩, .bool false, .bool false, .bool false, .slice none 0 0, .int .i64 0, .int .i64 0, .int .i64 0, .string ⟨#[]⟩, .slice none 0 0, .slice none 0 0] 42)) tb [.int .i64 2, .string (Ln.cn (0)), .string ⟨#[]⟩, .slice none 0 0, .bool false, .bool false, .slice (some ⟨vb, 0, none⟩) 1 1, .slice (some ⟨w7.heap.size, 0, none⟩) 1 1, .slice none 0 0, .int .i64 0, .int .i64 0] 32 := ((TB.set 7 (.slice (some ⟨w7.heap.size, 0, none⟩) 1 1)).alloc (.cells #[.string ⟨#[109]⟩, .bool false, .bool false, .bool false, .slice none 0 0, .int .i64 0, .int .i64 0, .int .i64 0, .string ⟨#[]⟩, .slice none 0 0, .slice none 0 0] 42))
            have HPX : Aid.Has (((w7).setCell ⟨tb, 7, none⟩ (.slice (some ⟨w7.heap.size, 0, none⟩) 1 1)).alloc (.cells #[.string ⟨#[109]⟩, .bool false, .bool false, .bool false, .slice none 0 0, .int .i64 0, .int .i64 0, .int .i64 0, .string ⟨#[]⟩, .slice none 0 0, .slice none 0 0] 42)) pu [.slice A (0) c] 24 := ((HPz.other ⟨tb, 7, none⟩ (.slice (some ⟨w7.heap.size, 0, none⟩) 1 1) (by show pu ≠ tb; omega)).alloc (.cells #[.string ⟨#[109]⟩, .bool false, .bool false, .bool false, .slice none 0 0, .int .i64 0, .int .i64 0, .int .i64 0, .string ⟨#[]⟩, .slice none 0 0, .slice none 0 0] 42))
            have HOX : World.ownsRow (((w7).setCell ⟨tb, 7, none⟩ (.slice (some ⟨w7.heap.size, 0, none⟩) 1 1)).alloc (.cells #[.string ⟨#[109]⟩, .bool false, .bool false, .bool false, .slice none 0 0, .int .i64 0, .int .i64 0, .int .i64 0, .string ⟨#[]⟩, .slice none 0 0, .slice none 0 0] 42)) (pu + 1) 32 11 (.slice A (0) c) (0) (l.map Dk.cells).flatten := ((own_other HOz f3 7 (.slice (some ⟨w7.heap.size, 0, none⟩) 1 1)).alloc (.cells #[.string ⟨#[109]⟩, .bool false, .bool false, .bool false, .slice none 0 0, .int .i64 0, .int .i64 0, .int .i64 0, .string ⟨#[]⟩, .slice none 0 0, .slice none 0 0] 42))
            have HBX : Below w.heap.size w (((w7).setCell ⟨tb, 7, none⟩ (.slice (some ⟨w7.heap.size, 0, none⟩) 1 1)).alloc (.cells #[.string ⟨#[109]⟩, .bool false, .bool false, .bool false, .slice none 0 0, .int .i64 0, .int .i64 0, .int .i64 0, .string ⟨#[]⟩, .slice none 0 0, .slice none 0 0] 42)) := ((HBz.setCell (p := ⟨tb, 7, none⟩) f5 (.slice (some ⟨w7.heap.size, 0, none⟩) 1 1)).alloc (by simpa [World.setCell] using zw) (.cells #[.string ⟨#[109]⟩, .bool false, .bool false, .bool false, .slice none 0 0, .int .i64 0, .int .i64 0, .int .i64 0, .string ⟨#[]⟩, .slice none 0 0, .slice none 0 0] 42))
            have VBX : Aid.Has (((w7).setCell ⟨tb, 7, none⟩ (.slice (some ⟨w7.heap.size, 0, none⟩) 1 1)).alloc (.cells #[.string ⟨#[109]⟩, .bool false, .bool false, .bool false, .slice none 0 0, .int .i64 0, .int .i64 0, .int .i64 0, .string ⟨#[]⟩, .slice none 0 0, .slice none 0 0] 42)) vb (Ln.fv (0)).cells 44 := ((VB.other ⟨tb, 7, none⟩ (.slice (some ⟨w7.heap.size, 0, none⟩) 1 1) (by show vb ≠ tb; omega)).alloc (.cells #[.string ⟨#[109]⟩, .bool false, .bool false, .bool false, .slice none 0 0, .int .i64 0, .int .i64 0, .int .i64 0, .string ⟨#[]⟩, .slice none 0 0, .slice none 0 0] 42))
            have KPX : Ln.Kp pu wr (((w7).setCell ⟨tb, 7, none⟩ (.slice (some ⟨w7.heap.size, 0, none⟩) 1 1)).alloc (.cells #[.string ⟨#[109]⟩, .bool false, .bool false, .bool false, .slice none 0 0, .int .i64 0, .int .i64 0, .int .i64 0, .string ⟨#[]⟩, .slice none 0 0, .slice none 0 0] 42)) := ((KP.setBox TB 7 (.slice (some ⟨w7.heap.size, 0, none⟩) 1 1)).alloc (.cells #[.string ⟨#[109]⟩, .bool false, .bool false, .bool false, .slice none 0 0, .int .i64 0, .int .i64 0, .int .i64 0, .string ⟨#[]⟩, .slice none 0 0, .slice none 0 0] 42))
            have dx0 := TBX.cell 0 _ rfl
            have dx1 := TBX.cell 1 _ rfl
            have dx2 := TBX.cell 2 _ rfl
            have dx3 := TBX.cell 3 _ rfl
            have dx4 := TBX.cell 4 _ rfl
            have dx5 := TBX.cell 5 _ rfl
            have dx6 := TBX.cell 6 _ rfl
            have dx7 := TBX.cell 7 _ rfl
            have dx8 := TBX.cell 8 _ rfl
            have dx9 := TBX.cell 9 _ rfl
            have dx10 := TBX.cell 10 _ rfl
            have px := HPX.cell 0 _ rfl
            have fz7 : pu < w7.heap.size := HPz.lt
            have tbl : tb < w7.heap.size := TB.lt
            clear TB HPz HOz HBz KP VB
            have hsz : (((w7).setCell ⟨tb, 7, none⟩ (.slice (some ⟨w7.heap.size, 0, none⟩) 1 1)).alloc (.cells #[.string ⟨#[109]⟩, .bool false, .bool false, .bool false, .slice none 0 0, .int .i64 0, .int .i64 0, .int .i64 0, .string ⟨#[]⟩, .slice none 0 0, .slice none 0 0] 42)).heap.size = w7.heap.size + 1 := by simp [World.setCell]
            have bc : ∀ (j : Nat) (x : Value), [.int .i64 2, .string (Ln.cn (0)), .string ⟨#[]⟩, .slice none 0 0, .bool false, .bool false, .slice (some ⟨vb, 0, none⟩) 1 1, .slice (some ⟨w7.heap.size, 0, none⟩) 1 1, .slice none 0 0, .int .i64 0, .int .i64 0][j]? = some x → (World.alloc (((w7).setCell ⟨tb, 7, none⟩ (.slice (some ⟨w7.heap.size, 0, none⟩) 1 1)).alloc (.cells #[.string ⟨#[109]⟩, .bool false, .bool false, .bool false, .slice none 0 0, .int .i64 0, .int .i64 0, .int .i64 0, .string ⟨#[]⟩, .slice none 0 0, .slice none 0 0] 42)) (.cells #[.int .i64 2, .string (Ln.cn (0)), .string ⟨#[]⟩, .slice none 0 0, .bool false, .bool false, .slice (some ⟨vb, 0, none⟩) 1 1, .slice (some ⟨w7.heap.size, 0, none⟩) 1 1, .slice none 0 0, .int .i64 0, .int .i64 0] 32)).cell? (Addr.add ⟨w7.heap.size + 1, 0, none⟩ j) = some x := fun j x hj => by
              rw [Go.WideShapes.add_plain, Nat.zero_add, ← hsz]
              exact (Aid.Has.new (((w7).setCell ⟨tb, 7, none⟩ (.slice (some ⟨w7.heap.size, 0, none⟩) 1 1)).alloc (.cells #[.string ⟨#[109]⟩, .bool false, .bool false, .bool false, .slice none 0 0, .int .i64 0, .int .i64 0, .int .i64 0, .string ⟨#[]⟩, .slice none 0 0, .slice none 0 0] 42)) [.int .i64 2, .string (Ln.cn (0)), .string ⟨#[]⟩, .slice none 0 0, .bool false, .bool false, .slice (some ⟨vb, 0, none⟩) 1 1, .slice (some ⟨w7.heap.size, 0, none⟩) 1 1, .slice none 0 0, .int .i64 0, .int .i64 0] 32).cell j x hj
            have pz : pu + 1 ≤ (World.alloc (((w7).setCell ⟨tb, 7, none⟩ (.slice (some ⟨w7.heap.size, 0, none⟩) 1 1)).alloc (.cells #[.string ⟨#[109]⟩, .bool false, .bool false, .bool false, .slice none 0 0, .int .i64 0, .int .i64 0, .int .i64 0, .string ⟨#[]⟩, .slice none 0 0, .slice none 0 0] 42)) (.cells #[.int .i64 2, .string (Ln.cn (0)), .string ⟨#[]⟩, .slice none 0 0, .bool false, .bool false, .slice (some ⟨vb, 0, none⟩) 1 1, .slice (some ⟨w7.heap.size, 0, none⟩) 1 1, .slice none 0 0, .int .i64 0, .int .i64 0] 32)).heap.size := by rw [World.size_alloc, hsz]; omega
            have n10 : 0 ≤ 10 := by omega
            go_wp2_with (at_builtin; refine wpList_append_own _ rfl _ _ 22 rfl (pu + 1) 32 i0 (.agg #[.int .i64 0, .string ⟨#[]⟩, .string ⟨#[]⟩, .slice none 0 0, .bool false, .bool false, .slice none 0 0, .slice none 0 0, .slice none 0 0, .int .i64 0, .int .i64 0]) 11 160 Try.underlying22 hi hz0 hz1 hz2 rfl (by decide) _ _ _ rfl (HOX.alloc _) ⟨w7.heap.size + 1, 0, none⟩ 1 1 [.int .i64 2, .string (Ln.cn (0)), .string ⟨#[]⟩, .slice none 0 0, .bool false, .bool false, .slice (some ⟨vb, 0, none⟩) 1 1, .slice (some ⟨w7.heap.size, 0, none⟩) 1 1, .slice none 0 0, .int .i64 0, .int .i64 0] rfl rfl bc ?d1 ?d2 ?d3 pz ?_)
            case d1 => exact fun u hu => List.all_eq_true.1 (show List.all [.int .i64 2, .string (Ln.cn (0)), .string ⟨#[]⟩, .slice none 0 0, .bool false, .bool false, .slice (some ⟨vb, 0, none⟩) 1 1, .slice (some ⟨w7.heap.size, 0, none⟩) 1 1, .slice none 0 0, .int .i64 0, .int .i64 0] Value.oneCell' = true from rfl) u hu
            case d2 => unfold maxLen; omega
            case d3 => omega
            · intro v2 w9 hown2 hgrow2 _
              obtain ⟨A2, c2, rfl⟩ := own_slice hown2
              have hlo : ∀ qq, (Value.slice A (0) c).ownBlock = some qq → pu + 1 ≤ qq := fun qq hq => (HOX.lt qq hq).1
              have HP9 : Aid.Has w9 pu [.slice A (0) c] 24 := (hgrow2.block pu (by rw [World.size_alloc, hsz]; omega) (fun e => by have := hlo pu e.symm; omega)).trans (HPX.alloc _)
              have K9 : Ln.Kp pu (((w7).setCell ⟨tb, 7, none⟩ (.slice (some ⟨w7.heap.size, 0, none⟩) 1 1)).alloc (.cells #[.string ⟨#[109]⟩, .bool false, .bool false, .bool false, .slice none 0 0, .int .i64 0, .int .i64 0, .int .i64 0, .string ⟨#[]⟩, .slice none 0 0, .slice none 0 0] 42)) (w9.setCell ⟨pu, 0, none⟩ (.slice A2 (0 + 1) c2)) := (((Ln.Kp.refl pu (((w7).setCell ⟨tb, 7, none⟩ (.slice (some ⟨w7.heap.size, 0, none⟩) 1 1)).alloc (.cells #[.string ⟨#[109]⟩, .bool false, .bool false, .bool false, .slice none 0 0, .int .i64 0, .int .i64 0, .int .i64 0, .string ⟨#[]⟩, .slice none 0 0, .slice none 0 0] 42))).alloc (.cells #[.int .i64 2, .string (Ln.cn (0)), .string ⟨#[]⟩, .slice none 0 0, .bool false, .bool false, .slice (some ⟨vb, 0, none⟩) 1 1, .slice (some ⟨w7.heap.size, 0, none⟩) 1 1, .slice none 0 0, .int .i64 0, .int .i64 0] 32)).grown (HOX.alloc _) hgrow2).setPu 0 (.slice A2 (0 + 1) c2)
              have HP10 := Aid.hid (HP9.set 0 (.slice A2 (0 + 1) c2))
              have HO10 := Aid.hid (own_other hown2 (fun qq hq => by have := (hown2.lt qq hq).1; omega : ∀ qq, (Value.slice A2 (0 + 1) c2).ownBlock = some qq → qq ≠ pu) 0 (.slice A2 (0 + 1) c2))
              have HB10 := Aid.hid (((HBX.alloc (by rw [hsz]; omega) (.cells #[.int .i64 2, .string (Ln.cn (0)), .string ⟨#[]⟩, .slice none 0 0, .bool false, .bool false, .slice (some ⟨vb, 0, none⟩) 1 1, .slice (some ⟨w7.heap.size, 0, none⟩) 1 1, .slice none 0 0, .int .i64 0, .int .i64 0] 32)).grown hgrow2 (by rw [World.size_alloc, hsz]; omega) (fun qq hq => by have := hlo qq hq; have := HPU.out; omega)).setCell (p := ⟨pu, 0, none⟩) (by show w.heap.size ≤ pu; have := HPU.out; omega) (.slice A2 (0 + 1) c2))
              have AD : Hid (Ln.At (w9.setCell ⟨pu, 0, none⟩ (.slice A2 (0 + 1) c2)) pu (Ln.dk1 (0) ⟨#[]⟩ vb w7.heap.size)) := Aid.hid (Or.inr ⟨_, _, _, _, rfl, f2, fz7, K9 _ _ _ f2 (by decide) VBX, K9 _ _ _ fz7 (by decide) MBX⟩)
              have AL : Hid (∀ e ∈ l ++ [(Ln.dk1 (0) ⟨#[]⟩ vb w7.heap.size)], Ln.At (w9.setCell ⟨pu, 0, none⟩ (.slice A2 (0 + 1) c2)) pu e) := Aid.hid (fun e he => by
                rcases List.mem_append.1 he with h | h
                · exact (LD.out e h).kept (KPX.trans K9)
                · obtain rfl : e = (Ln.dk1 (0) ⟨#[]⟩ vb w7.heap.size) := by simpa using h
                  exact AD.out)
              have LN2 : Hid ((l ++ [(Ln.dk1 (0) ⟨#[]⟩ vb w7.heap.size)]).length = 0 + 1) := Aid.hid (by rw [List.length_append, HN.out]; rfl)
              have LI : Hid (Ln.Line no (l ++ [(Ln.dk1 (0) ⟨#[]⟩ vb w7.heap.size)])) := Aid.hid (LL.out.snoc (by rw [HN.out]; exact Ln.is1 (fun _ => rfl) (fun q' h => by omega) (Or.inr rfl)))
              have ED : Hid (((l ++ [(Ln.dk1 (0) ⟨#[]⟩ vb w7.heap.size)]).map Dk.cells).flatten = (l.map Dk.cells).flatten ++ [.int .i64 2, .string (Ln.cn (0)), .string ⟨#[]⟩, .slice none 0 0, .bool false, .bool false, .slice (some ⟨vb, 0, none⟩) 1 1, .slice (some ⟨w7.heap.size, 0, none⟩) 1 1, .slice none 0 0, .int .i64 0, .int .i64 0]) := Aid.hid (by rw [List.map_append, List.flatten_append]; rfl)
              have S10 : Hid (pu + 1 ≤ (w9.setCell ⟨pu, 0, none⟩ (.slice A2 (0 + 1) c2)).heap.size) := Aid.hid (by have := HP9.lt; simp [World.setCell]; omega)
              have hp9 := HP9.cell 0 _ rfl
              have hpf := HP9.frozen 0
              clear hown2 hgrow2 HPX HOX HBX VBX KPX K9 MBX TBX bc HP9 px dx0 dx1 dx2 dx3 dx4 dx5 dx6 dx7 dx8 dx9 dx10
              go_wp2_with fail
              go_roundw
              case rel => exact ⟨l ++ [(Ln.dk1 (0) ⟨#[]⟩ vb w7.heap.size)], A2, c2, by rw [LN2.out]; first | rfl | go_num | simp, by rw [LN2.out]; omega, LI, AL, Aid.hid (by rw [LN2.out]; exact HP10.out), Aid.hid (by rw [LN2.out, ED.out]; exact HO10.out), HB10, S10⟩
              case measure => simp [intOf]; omega
        · by_cases hno : q + 1 = no
          · have g3 : (((q : Int) + 1) == (no : Int)) = true := by simp; omega
            have HNO := Aid.hid hno
            clear hno
            have tz2 := TB.cell 2 _ rfl
            have tf2 := TB.frozen 2
            have tz7 : ((w7.setCell ⟨tb, 2, none⟩ (.string ((⟨#[67]⟩ : ByteArray) ++ (⟨#[48, 49, 50, 51, 52, 53, 54, 55, 56, 57]⟩ : ByteArray).extract q (q + 1)))).alloc (.cells #[.string ⟨#[109]⟩, .bool false, .bool false, .bool false, .slice none 0 0, .int .i64 0, .int .i64 0, .int .i64 0, .string ⟨#[]⟩, .slice none 0 0, .slice none 0 0] 42)).cell? ⟨tb, 7, none⟩ = some (.slice none 0 0) := ((TB.set 2 (.string ((⟨#[67]⟩ : ByteArray) ++ (⟨#[48, 49, 50, 51, 52, 53, 54, 55, 56, 57]⟩ : ByteArray).extract q (q + 1)))).alloc _).cell 7 _ rfl
            have tf7 : ((w7.setCell ⟨tb, 2, none⟩ (.string ((⟨#[67]⟩ : ByteArray) ++ (⟨#[48, 49, 50, 51, 52, 53, 54, 55, 56, 57]⟩ : ByteArray).extract q (q + 1)))).alloc (.cells #[.string ⟨#[109]⟩, .bool false, .bool false, .bool false, .slice none 0 0, .int .i64 0, .int .i64 0, .int .i64 0, .string ⟨#[]⟩, .slice none 0 0, .slice none 0 0] 42)).frozen? ⟨tb, 7, none⟩ = false := ((TB.set 2 (.string ((⟨#[67]⟩ : ByteArray) ++ (⟨#[48, 49, 50, 51, 52, 53, 54, 55, 56, 57]⟩ : ByteArray).extract q (q + 1)))).alloc _).frozen 7
            have MBX : Aid.Has (((w7.setCell ⟨tb, 2, none⟩ (.string ((⟨#[67]⟩ : ByteArray) ++ (⟨#[48, 49, 50, 51, 52, 53, 54, 55, 56, 57]⟩ : ByteArray).extract q (q + 1)))).setCell ⟨tb, 7, none⟩ (.slice (some ⟨w7.heap.size, 0, none⟩) 1 1)).alloc (.cells #[.string ⟨#[109]⟩, .bool false, .bool false, .bool false, .slice none 0 0, .int .i64 0, .int .i64 0, .int .i64 0, .string ⟨#[]⟩, .slice none 0 0, .slice none 0 0] 42)) w7.heap.size Ln.md.cells 42 := by have h := Aid.Has.new ((w7.setCell ⟨tb, 2, none⟩ (.string ((⟨#[67]⟩ : ByteArray) ++ (⟨#[48, 49, 50, 51, 52, 53, 54, 55, 56, 57]⟩ : ByteArray).extract q (q + 1)))).setCell ⟨tb, 7, none⟩ (.slice (some ⟨w7.heap.size, 0, none⟩) 1 1)) Ln.md.cells 42; rw [show ((w7.setCell ⟨tb, 2, none⟩ (.string ((⟨#[67]⟩ : ByteArray) ++ (⟨#[48, 49, 50, 51, 52, 53, 54, 55, 56, 57]⟩ : ByteArray).extract q (q + 1)))).setCell ⟨tb, 7, none⟩ (.slice (some ⟨w7.heap.size, 0, none⟩) 1 1)).heap.size = w7.heap.size by simp [World.setCell]] at h; exact h
            have TBX : Aid.Has (((w7.setCell ⟨tb, 2, none⟩ (.string ((⟨#[67]⟩ : ByteArray) ++ (⟨#[48, 49, 50, 51, 52, 53, 54, 55, 56, 57]⟩ : ByteArray).extract q (q + 1)))).setCell ⟨tb, 7, none⟩ (.slice (some ⟨w7.heap.size, 0, none⟩) 1 1)).alloc (.cells #[.string ⟨#[109]⟩, .bool false, .bool false, .bool false, .slice none 0 0, .int .i64 0, .int .i64 0, .int .i64 0, .string ⟨#[]⟩, .slice none 0 0, .slice none 0 0] 42)) tb [.int .i64 2, .string (Ln.cn (q + 1)), .string ((⟨#[67]⟩ : ByteArray) ++ (⟨#[48, 49, 50, 51, 52, 53, 54, 55, 56, 57]⟩ : ByteArray).extract q (q + 1)), .slice none 0 0, .bool false, .bool false, .slice (some ⟨vb, 0, none⟩) 1 1, .slice (some ⟨w7.heap.size, 0, none⟩) 1 1, .slice none 0 0, .int .i64 0, .int .i64 0] 32 := (((TB.set 2 (.string ((⟨#[67]⟩ : ByteArray) ++ (⟨#[48, 49, 50, 51, 52, 53, 54, 55, 56, 57]⟩ : ByteArray).extract q (q + 1)))).set 7 (.slice (some ⟨w7.heap.size, 0, none⟩) 1 1)).alloc (.cells #[.string ⟨#[109]⟩, .bool false, .bool false, .bool false, .slice none 0 0, .int .i64 0, .int .i64 0, .int .i64 0, .string ⟨#[]⟩, .slice none 0 0, .slice none 0 0] 42))
            have HPX : Aid.Has (((w7.setCell ⟨tb, 2, none⟩ (.string ((⟨#[67]⟩ : ByteArray) ++ (⟨#[48, 49, 50, 51, 52, 53, 54, 55, 56, 57]⟩ : ByteArray).extract q (q + 1)))).setCell ⟨tb, 7, none⟩ (.slice (some ⟨w7.heap.size, 0, none⟩) 1 1)).alloc (.cells #[.string ⟨#[109]⟩, .bool false, .bool false, .bool false, .slice none 0 0, .int .i64 0, .int .i64 0, .int .i64 0, .string ⟨#[]⟩, .slice none 0 0, .slice none 0 0] 42)) pu [.slice A (q + 1) c] 24 := (((HPz.other ⟨tb, 2, none⟩ (.string ((⟨#[67]⟩ : ByteArray) ++ (⟨#[48, 49, 50, 51, 52, 53, 54, 55, 56, 57]⟩ : ByteArray).extract q (q + 1))) (by show pu ≠ tb; omega)).other ⟨tb, 7, none⟩ (.slice (some ⟨w7.heap.size, 0, none⟩) 1 1) (by show pu ≠ tb; omega)).alloc (.cells #[.string ⟨#[109]⟩, .bool false, .bool false, .bool false, .slice none 0 0, .int .i64 0, .int .i64 0, .int .i64 0, .string ⟨#[]⟩, .slice none 0 0, .slice none 0 0] 42))
            have HOX : World.ownsRow (((w7.setCell ⟨tb, 2, none⟩ (.string ((⟨#[67]⟩ : ByteArray) ++ (⟨#[48, 49, 50, 51, 52, 53, 54, 55, 56, 57]⟩ : ByteArray).extract q (q + 1)))).setCell ⟨tb, 7, none⟩ (.slice (some ⟨w7.heap.size, 0, none⟩) 1 1)).alloc (.cells #[.string ⟨#[109]⟩, .bool false, .bool false, .bool false, .slice none 0 0, .int .i64 0, .int .i64 0, .int .i64 0, .string ⟨#[]⟩, .slice none 0 0, .slice none 0 0] 42)) (pu + 1) 32 11 (.slice A (q + 1) c) (q + 1) (l.map Dk.cells).flatten := ((own_other (own_other HOz f3 2 (.string ((⟨#[67]⟩ : ByteArray) ++ (⟨#[48, 49, 50, 51, 52, 53, 54, 55, 56, 57]⟩ : ByteArray).extract q (q + 1)))) f3 7 (.slice (some ⟨w7.heap.size, 0, none⟩) 1 1)).alloc (.cells #[.string ⟨#[109]⟩, .bool false, .bool false, .bool false, .slice none 0 0, .int .i64 0, .int .i64 0, .int .i64 0, .string ⟨#[]⟩, .slice none 0 0, .slice none 0 0] 42))
            have HBX : Below w.heap.size w (((w7.setCell ⟨tb, 2, none⟩ (.string ((⟨#[67]⟩ : ByteArray) ++ (⟨#[48, 49, 50, 51, 52, 53, 54, 55, 56, 57]⟩ : ByteArray).extract q (q + 1)))).setCell ⟨tb, 7, none⟩ (.slice (some ⟨w7.heap.size, 0, none⟩) 1 1)).alloc (.cells #[.string ⟨#[109]⟩, .bool false, .bool false, .bool false, .slice none 0 0, .int .i64 0, .int .i64 0, .int .i64 0, .string ⟨#[]⟩, .slice none 0 0, .slice none 0 0] 42)) := (((HBz.setCell (p := ⟨tb, 2, none⟩) f5 (.string ((⟨#[67]⟩ : ByteArray) ++ (⟨#[48, 49, 50, 51, 52, 53, 54, 55, 56, 57]⟩ : ByteArray).extract q (q + 1)))).setCell (p := ⟨tb, 7, none⟩) f5 (.slice (some ⟨w7.heap.size, 0, none⟩) 1 1)).alloc (by simpa [World.setCell] using zw) (.cells #[.string ⟨#[109]⟩, .bool false, .bool false, .bool false, .slice none 0 0, .int .i64 0, .int .i64 0, .int .i64 0, .string ⟨#[]⟩, .slice none 0 0, .slice none 0 0] 42))
            have VBX : Aid.Has (((w7.setCell ⟨tb, 2, none⟩ (.string ((⟨#[67]⟩ : ByteArray) ++ (⟨#[48, 49, 50, 51, 52, 53, 54, 55, 56, 57]⟩ : ByteArray).extract q (q + 1)))).setCell ⟨tb, 7, none⟩ (.slice (some ⟨w7.heap.size, 0, none⟩) 1 1)).alloc (.cells #[.string ⟨#[109]⟩, .bool false, .bool false, .bool false, .slice none 0 0, .int .i64 0, .int .i64 0, .int .i64 0, .string ⟨#[]⟩, .slice none 0 0, .slice none 0 0] 42)) vb (Ln.fv (q + 1)).cells 44 := (((VB.other ⟨tb, 2, none⟩ (.string ((⟨#[67]⟩ : ByteArray) ++ (⟨#[48, 49, 50, 51, 52, 53, 54, 55, 56, 57]⟩ : ByteArray).extract q (q + 1))) (by show vb ≠ tb; omega)).other ⟨tb, 7, none⟩ (.slice (some ⟨w7.heap.size, 0, none⟩) 1 1) (by show vb ≠ tb; omega)).alloc (.cells #[.string ⟨#[109]⟩, .bool false, .bool false, .bool false, .slice none 0 0, .int .i64 0, .int .i64 0, .int .i64 0, .string ⟨#[]⟩, .slice none 0 0, .slice none 0 0] 42))
            have KPX : Ln.Kp pu wr (((w7.setCell ⟨tb, 2, none⟩ (.string ((⟨#[67]⟩ : ByteArray) ++ (⟨#[48, 49, 50, 51, 52, 53, 54, 55, 56, 57]⟩ : ByteArray).extract q (q + 1)))).setCell ⟨tb, 7, none⟩ (.slice (some ⟨w7.heap.size, 0, none⟩) 1 1)).alloc (.cells #[.string ⟨#[109]⟩, .bool false, .bool false, .bool false, .slice none 0 0, .int .i64 0, .int .i64 0, .int .i64 0, .string ⟨#[]⟩, .slice none 0 0, .slice none 0 0] 42)) := (((KP.setBox TB 2 (.string ((⟨#[67]⟩ : ByteArray) ++ (⟨#[48, 49, 50, 51, 52, 53, 54, 55, 56, 57]⟩ : ByteArray).extract q (q + 1)))).setBox (TB.set 2 (.string ((⟨#[67]⟩ : ByteArray) ++ (⟨#[48, 49, 50, 51, 52, 53, 54, 55, 56, 57]⟩ : ByteArray).extract q (q + 1)))) 7 (.slice (some ⟨w7.heap.size, 0, none⟩) 1 1)).alloc (.cells #[.string ⟨#[109]⟩, .bool false, .bool false, .bool false, .slice none 0 0, .int .i64 0, .int .i64 0, .int .i64 0, .string ⟨#[]⟩, .slice none 0 0, .slice none 0 0] 42))
            have dx0 := TBX.cell 0 _ rfl
            have dx1 := TBX.cell 1 _ rfl
            have dx2 := TBX.cell 2 _ rfl
            have dx3 := TBX.cell 3 _ rfl
            have dx4 := TBX.cell 4 _ rfl
            have dx5 := TBX.cell 5 _ rfl
            have dx6 := TBX.cell 6 _ rfl
            have dx7 := TBX.cell 7 _ rfl
            have dx8 := TBX.cell 8 _ rfl
            have dx9 := TBX.cell 9 _ rfl
            have dx10 := TBX.cell 10 _ rfl
            have px := HPX.cell 0 _ rfl
            have fz7 : pu < w7.heap.size := HPz.lt
            have tbl : tb < w7.heap.size := TB.lt
            clear TB HPz HOz HBz KP VB
            have hsz : (((w7.setCell ⟨tb, 2, none⟩ (.string ((⟨#[67]⟩ : ByteArray) ++ (⟨#[48, 49, 50, 51, 52, 53, 54, 55, 56, 57]⟩ : ByteArray).extract q (q + 1)))).setCell ⟨tb, 7, none⟩ (.slice (some ⟨w7.heap.size, 0, none⟩) 1 1)).alloc (.cells #[.string ⟨#[109]⟩, .bool false, .bool false, .bool false, .slice none 0 0, .int .i64 0, .int .i64 0, .int .i64 0, .string ⟨#[]⟩, .slice none 0 0, .slice none 0 0] 42)).heap.size = w7.heap.size + 1 := by simp [World.setCell]
            have bc : ∀ (j : Nat) (x : Value), [.int .i64 2, .string (Ln.cn (q + 1)), .string ((⟨#[67]⟩ : ByteArray) ++ (⟨#[48, 49, 50, 51, 52, 53, 54, 55, 56, 57]⟩ : ByteArray).extract q (q + 1)), .slice none 0 0, .bool false, .bool false, .slice (some ⟨vb, 0, none⟩) 1 1, .slice (some ⟨w7.heap.size, 0, none⟩) 1 1, .slice none 0 0, .int .i64 0, .int .i64 0][j]? = some x → (World.alloc (((w7.setCell ⟨tb, 2, none⟩ (.string ((⟨#[67]⟩ : ByteArray) ++ (⟨#[48, 49, 50, 51, 52, 53, 54, 55, 56, 57]⟩ : ByteArray).extract q (q + 1)))).setCell ⟨tb, 7, none⟩ (.slice (some ⟨w7.heap.size, 0, none⟩) 1 1)).alloc (.cells #[.string ⟨#[109]⟩, .bool false, .bool false, .bool false, .slice none 0 0, .int .i64 0, .int .i64 0, .int .i64 0, .string ⟨#[]⟩, .slice none 0 0, .slice none 0 0] 42)) (.cells #[.int .i64 2, .string (Ln.cn (q + 1)), .string ((⟨#[67]⟩ : ByteArray) ++ (⟨#[48, 49, 50, 51, 52, 53, 54, 55, 56, 57]⟩ : ByteArray).extract q (q + 1)), .slice none 0 0, .bool false, .bool false, .slice (some ⟨vb, 0, none⟩) 1 1, .slice (some ⟨w7.heap.size, 0, none⟩) 1 1, .slice none 0 0, .int .i64 0, .int .i64 0] 32)).cell? (Addr.add ⟨w7.heap.size + 1, 0, none⟩ j) = some x := fun j x hj => by
              rw [Go.WideShapes.add_plain, Nat.zero_add, ← hsz]
              exact (Aid.Has.new (((w7.setCell ⟨tb, 2, none⟩ (.string ((⟨#[67]⟩ : ByteArray) ++ (⟨#[48, 49, 50, 51, 52, 53, 54, 55, 56, 57]⟩ : ByteArray).extract q (q + 1)))).setCell ⟨tb, 7, none⟩ (.slice (some ⟨w7.heap.size, 0, none⟩) 1 1)).alloc (.cells #[.string ⟨#[109]⟩, .bool false, .bool false, .bool false, .slice none 0 0, .int .i64 0, .int .i64 0, .int .i64 0, .string ⟨#[]⟩, .slice none 0 0, .slice none 0 0] 42)) [.int .i64 2, .string (Ln.cn (q + 1)), .string ((⟨#[67]⟩ : ByteArray) ++ (⟨#[48, 49, 50, 51, 52, 53, 54, 55, 56, 57]⟩ : ByteArray).extract q (q + 1)), .slice none 0 0, .bool false, .bool false, .slice (some ⟨vb, 0, none⟩) 1 1, .slice (some ⟨w7.heap.size, 0, none⟩) 1 1, .slice none 0 0, .int .i64 0, .int .i64 0] 32).cell j x hj
            have pz : pu + 1 ≤ (World.alloc (((w7.setCell ⟨tb, 2, none⟩ (.string ((⟨#[67]⟩ : ByteArray) ++ (⟨#[48, 49, 50, 51, 52, 53, 54, 55, 56, 57]⟩ : ByteArray).extract q (q + 1)))).setCell ⟨tb, 7, none⟩ (.slice (some ⟨w7.heap.size, 0, none⟩) 1 1)).alloc (.cells #[.string ⟨#[109]⟩, .bool false, .bool false, .bool false, .slice none 0 0, .int .i64 0, .int .i64 0, .int .i64 0, .string ⟨#[]⟩, .slice none 0 0, .slice none 0 0] 42)) (.cells #[.int .i64 2, .string (Ln.cn (q + 1)), .string ((⟨#[67]⟩ : ByteArray) ++ (⟨#[48, 49, 50, 51, 52, 53, 54, 55, 56, 57]⟩ : ByteArray).extract q (q + 1)), .slice none 0 0, .bool false, .bool false, .slice (some ⟨vb, 0, none⟩) 1 1, .slice (some ⟨w7.heap.size, 0, none⟩) 1 1, .slice none 0 0, .int .i64 0, .int .i64 0] 32)).heap.size := by rw [World.size_alloc, hsz]; omega
            have n10 : q + 1 ≤ 10 := by omega
            go_wp2_with (at_builtin; refine wpList_append_own _ rfl _ _ 22 rfl (pu + 1) 32 i0 (.agg #[.int .i64 0, .string ⟨#[]⟩, .string ⟨#[]⟩, .slice none 0 0, .bool false, .bool false, .slice none 0 0, .slice none 0 0, .slice none 0 0, .int .i64 0, .int .i64 0]) 11 160 Try.underlying22 hi hz0 hz1 hz2 rfl (by decide) _ _ _ rfl (HOX.alloc _) ⟨w7.heap.size + 1, 0, none⟩ 1 1 [.int .i64 2, .string (Ln.cn (q + 1)), .string ((⟨#[67]⟩ : ByteArray) ++ (⟨#[48, 49, 50, 51, 52, 53, 54, 55, 56, 57]⟩ : ByteArray).extract q (q + 1)), .slice none 0 0, .bool false, .bool false, .slice (some ⟨vb, 0, none⟩) 1 1, .slice (some ⟨w7.heap.size, 0, none⟩) 1 1, .slice none 0 0, .int .i64 0, .int .i64 0] rfl rfl bc ?d1 ?d2 ?d3 pz ?_)
            case d1 => exact fun u hu => List.all_eq_true.1 (show List.all [.int .i64 2, .string (Ln.cn (q + 1)), .string ((⟨#[67]⟩ : ByteArray) ++ (⟨#[48, 49, 50, 51, 52, 53, 54, 55, 56, 57]⟩ : ByteArray).extract q (q + 1)), .slice none 0 0, .bool false, .bool false, .slice (some ⟨vb, 0, none⟩) 1 1, .slice (some ⟨w7.heap.size, 0, none⟩) 1 1, .slice none 0 0, .int .i64 0, .int .i64 0] Value.oneCell' = true from rfl) u hu
            case d2 => unfold maxLen; omega
            case d3 => omega
            · intro v2 w9 hown2 hgrow2 _
              obtain ⟨A2, c2, rfl⟩ := own_slice hown2
              have hlo : ∀ qq, (Value.slice A (q + 1) c).ownBlock = some qq → pu + 1 ≤ qq := fun qq hq => (HOX.lt qq hq).1
              have HP9 : Aid.Has w9 pu [.slice A (q + 1) c] 24 := (hgrow2.block pu (by rw [World.size_alloc, hsz]; omega) (fun e => by have := hlo pu e.symm; omega)).trans (HPX.alloc _)
              have K9 : Ln.Kp pu (((w7.setCell ⟨tb, 2, none⟩ (.string ((⟨#[67]⟩ : ByteArray) ++ (⟨#[48, 49, 50, 51, 52, 53, 54, 55, 56, 57]⟩ : ByteArray).extract q (q + 1)))).setCell ⟨tb, 7, none⟩ (.slice (some ⟨w7.heap.size, 0, none⟩) 1 1)).alloc (.cells #[.string ⟨#[109]⟩, .bool false, .bool false, .bool false, .slice none 0 0, .int .i64 0, .int .i64 0, .int .i64 0, .string ⟨#[]⟩, .slice none 0 0, .slice none 0 0] 42)) (w9.setCell ⟨pu, 0, none⟩ (.slice A2 (q + 1 + 1) c2)) := (((Ln.Kp.refl pu (((w7.setCell ⟨tb, 2, none⟩ (.string ((⟨#[67]⟩ : ByteArray) ++ (⟨#[48, 49, 50, 51, 52, 53, 54, 55, 56, 57]⟩ : ByteArray).extract q (q + 1)))).setCell ⟨tb, 7, none⟩ (.slice (some ⟨w7.heap.size, 0, none⟩) 1 1)).alloc (.cells #[.string ⟨#[109]⟩, .bool false, .bool false, .bool false, .slice none 0 0, .int .i64 0, .int .i64 0, .int .i64 0, .string ⟨#[]⟩, .slice none 0 0, .slice none 0 0] 42))).alloc (.cells #[.int .i64 2, .string (Ln.cn (q + 1)), .string ((⟨#[67]⟩ : ByteArray) ++ (⟨#[48, 49, 50, 51, 52, 53, 54, 55, 56, 57]⟩ : ByteArray).extract q (q + 1)), .slice none 0 0, .bool false, .bool false, .slice (some ⟨vb, 0, none⟩) 1 1, .slice (some ⟨w7.heap.size, 0, none⟩) 1 1, .slice none 0 0, .int .i64 0, .int .i64 0] 32)).grown (HOX.alloc _) hgrow2).setPu 0 (.slice A2 (q + 1 + 1) c2)
              have HP10 := Aid.hid (HP9.set 0 (.slice A2 (q + 1 + 1) c2))
              have HO10 := Aid.hid (own_other hown2 (fun qq hq => by have := (hown2.lt qq hq).1; omega : ∀ qq, (Value.slice A2 (q + 1 + 1) c2).ownBlock = some qq → qq ≠ pu) 0 (.slice A2 (q + 1 + 1) c2))
              have HB10 := Aid.hid (((HBX.alloc (by rw [hsz]; omega) (.cells #[.int .i64 2, .string (Ln.cn (q + 1)), .string ((⟨#[67]⟩ : ByteArray) ++ (⟨#[48, 49, 50, 51, 52, 53, 54, 55, 56, 57]⟩ : ByteArray).extract q (q + 1)), .slice none 0 0, .bool false, .bool false, .slice (some ⟨vb, 0, none⟩) 1 1, .slice (some ⟨w7.heap.size, 0, none⟩) 1 1, .slice none 0 0, .int .i64 0, .int .i64 0] 32)).grown hgrow2 (by rw [World.size_alloc, hsz]; omega) (fun qq hq => by have := hlo qq hq; have := HPU.out; omega)).setCell (p := ⟨pu, 0, none⟩) (by show w.heap.size ≤ pu; have := HPU.out; omega) (.slice A2 (q + 1 + 1) c2))
              have AD : Hid (Ln.At (w9.setCell ⟨pu, 0, none⟩ (.slice A2 (q + 1 + 1) c2)) pu (Ln.dk1 (q + 1) ((⟨#[67]⟩ : ByteArray) ++ (⟨#[48, 49, 50, 51, 52, 53, 54, 55, 56, 57]⟩ : ByteArray).extract q (q + 1)) vb w7.heap.size)) := Aid.hid (Or.inr ⟨_, _, _, _, rfl, f2, fz7, K9 _ _ _ f2 (by decide) VBX, K9 _ _ _ fz7 (by decide) MBX⟩)
              have AL : Hid (∀ e ∈ l ++ [(Ln.dk1 (q + 1) ((⟨#[67]⟩ : ByteArray) ++ (⟨#[48, 49, 50, 51, 52, 53, 54, 55, 56, 57]⟩ : ByteArray).extract q (q + 1)) vb w7.heap.size)], Ln.At (w9.setCell ⟨pu, 0, none⟩ (.slice A2 (q + 1 + 1) c2)) pu e) := Aid.hid (fun e he => by
                rcases List.mem_append.1 he with h | h
                · exact (LD.out e h).kept (KPX.trans K9)
                · obtain rfl : e = (Ln.dk1 (q + 1) ((⟨#[67]⟩ : ByteArray) ++ (⟨#[48, 49, 50, 51, 52, 53, 54, 55, 56, 57]⟩ : ByteArray).extract q (q + 1)) vb w7.heap.size) := by simpa using h
                  exact AD.out)
              have LN2 : Hid ((l ++ [(Ln.dk1 (q + 1) ((⟨#[67]⟩ : ByteArray) ++ (⟨#[48, 49, 50, 51, 52, 53, 54, 55, 56, 57]⟩ : ByteArray).extract q (q + 1)) vb w7.heap.size)]).length = q + 1 + 1) := Aid.hid (by rw [List.length_append, HN.out]; rfl)
              have LI : Hid (Ln.Line no (l ++ [(Ln.dk1 (q + 1) ((⟨#[67]⟩ : ByteArray) ++ (⟨#[48, 49, 50, 51, 52, 53, 54, 55, 56, 57]⟩ : ByteArray).extract q (q + 1)) vb w7.heap.size)])) := Aid.hid (LL.out.snoc (by rw [HN.out]; exact Ln.is1 (fun h => by omega) (fun q' h => (show q = q' by omega) ▸ rfl) (Or.inl HNO.out)))
              have ED : Hid (((l ++ [(Ln.dk1 (q + 1) ((⟨#[67]⟩ : ByteArray) ++ (⟨#[48, 49, 50, 51, 52, 53, 54, 55, 56, 57]⟩ : ByteArray).extract q (q + 1)) vb w7.heap.size)]).map Dk.cells).flatten = (l.map Dk.cells).flatten ++ [.int .i64 2, .string (Ln.cn (q + 1)), .string ((⟨#[67]⟩ : ByteArray) ++ (⟨#[48, 49, 50, 51, 52, 53, 54, 55, 56, 57]⟩ : ByteArray).extract q (q + 1)), .slice none 0 0, .bool false, .bool false, .slice (some ⟨vb, 0, none⟩) 1 1, .slice (some ⟨w7.heap.size, 0, none⟩) 1 1, .slice none 0 0, .int .i64 0, .int .i64 0]) := Aid.hid (by rw [List.map_append, List.flatten_append]; rfl)
              have S10 : Hid (pu + 1 ≤ (w9.setCell ⟨pu, 0, none⟩ (.slice A2 (q + 1 + 1) c2)).heap.size) := Aid.hid (by have := HP9.lt; simp [World.setCell]; omega)
              have hp9 := HP9.cell 0 _ rfl
              have hpf := HP9.frozen 0
              clear hown2 hgrow2 HPX HOX HBX VBX KPX K9 MBX TBX bc HP9 px dx0 dx1 dx2 dx3 dx4 dx5 dx6 dx7 dx8 dx9 dx10
              go_wp2_with fail
              go_roundw
              case rel => exact ⟨l ++ [(Ln.dk1 (q + 1) ((⟨#[67]⟩ : ByteArray) ++ (⟨#[48, 49, 50, 51, 52, 53, 54, 55, 56, 57]⟩ : ByteArray).extract q (q + 1)) vb w7.heap.size)], A2, c2, by rw [LN2.out]; first | rfl | go_num | simp, by rw [LN2.out]; omega, LI, AL, Aid.hid (by rw [LN2.out]; exact HP10.out), Aid.hid (by rw [LN2.out, ED.out]; exact HO10.out), HB10, S10⟩
              case measure => simp [intOf]; omega
          · have g3 : (((q : Int) + 1) == (no : Int)) = false := by simp; omega
            have HNO := Aid.hid hno
            clear hno
            have tz2 := TB.cell 2 _ rfl
            have tf2 := TB.frozen 2
            have TBX : Aid.Has (w7.setCell ⟨tb, 2, none⟩ (.string ((⟨#[67]⟩ : ByteArray) ++ (⟨#[48, 49, 50, 51, 52, 53, 54, 55, 56, 57]⟩ : ByteArray).extract q (q + 1)))) tb [.int .i64 2, .string (Ln.cn (q + 1)), .string ((⟨#[67]⟩ : ByteArray) ++ (⟨#[48, 49, 50, 51, 52, 53, 54, 55, 56, 57]⟩ : ByteArray).extract q (q + 1)), .slice none 0 0, .bool false, .bool false, .slice (some ⟨vb, 0, none⟩) 1 1, .slice none 0 0, .slice none 0 0, .int .i64 0, .int .i64 0] 32 := (TB.set 2 (.string ((⟨#[67]⟩ : ByteArray) ++ (⟨#[48, 49, 50, 51, 52, 53, 54, 55, 56, 57]⟩ : ByteArray).extract q (q + 1))))
            have HPX : Aid.Has (w7.setCell ⟨tb, 2, none⟩ (.string ((⟨#[67]⟩ : ByteArray) ++ (⟨#[48, 49, 50, 51, 52, 53, 54, 55, 56, 57]⟩ : ByteArray).extract q (q + 1)))) pu [.slice A (q + 1) c] 24 := (HPz.other ⟨tb, 2, none⟩ (.string ((⟨#[67]⟩ : ByteArray) ++ (⟨#[48, 49, 50, 51, 52, 53, 54, 55, 56, 57]⟩ : ByteArray).extract q (q + 1))) (by show pu ≠ tb; omega))
            have HOX : World.ownsRow (w7.setCell ⟨tb, 2, none⟩ (.string ((⟨#[67]⟩ : ByteArray) ++ (⟨#[48, 49, 50, 51, 52, 53, 54, 55, 56, 57]⟩ : ByteArray).extract q (q + 1)))) (pu + 1) 32 11 (.slice A (q + 1) c) (q + 1) (l.map Dk.cells).flatten := (own_other HOz f3 2 (.string ((⟨#[67]⟩ : ByteArray) ++ (⟨#[48, 49, 50, 51, 52, 53, 54, 55, 56, 57]⟩ : ByteArray).extract q (q + 1))))
            have HBX : Below w.heap.size w (w7.setCell ⟨tb, 2, none⟩ (.string ((⟨#[67]⟩ : ByteArray) ++ (⟨#[48, 49, 50, 51, 52, 53, 54, 55, 56, 57]⟩ : ByteArray).extract q (q + 1)))) := (HBz.setCell (p := ⟨tb, 2, none⟩) f5 (.string ((⟨#[67]⟩ : ByteArray) ++ (⟨#[48, 49, 50, 51, 52, 53, 54, 55, 56, 57]⟩ : ByteArray).extract q (q + 1))))
            have VBX : Aid.Has (w7.setCell ⟨tb, 2, none⟩ (.string ((⟨#[67]⟩ : ByteArray) ++ (⟨#[48, 49, 50, 51, 52, 53, 54, 55, 56, 57]⟩ : ByteArray).extract q (q + 1)))) vb (Ln.fv (q + 1)).cells 44 := (VB.other ⟨tb, 2, none⟩ (.string ((⟨#[67]⟩ : ByteArray) ++ (⟨#[48, 49, 50, 51, 52, 53, 54, 55, 56, 57]⟩ : ByteArray).extract q (q + 1))) (by show vb ≠ tb; omega))
            have KPX : Ln.Kp pu wr (w7.setCell ⟨tb, 2, none⟩ (.string ((⟨#[67]⟩ : ByteArray) ++ (⟨#[48, 49, 50, 51, 52, 53, 54, 55, 56, 57]⟩ : ByteArray).extract q (q + 1)))) := (KP.setBox TB 2 (.string ((⟨#[67]⟩ : ByteArray) ++ (⟨#[48, 49, 50, 51, 52, 53, 54, 55, 56, 57]⟩ : ByteArray).extract q (q + 1))))
            have dx0 := TBX.cell 0 _ rfl
            have dx1 := TBX.cell 1 _ rfl
            have dx2 := TBX.cell 2 _ rfl
            have dx3 := TBX.cell 3 _ rfl
            have dx4 := TBX.cell 4 _ rfl
            have dx5 := TBX.cell 5 _ rfl
            have dx6 := TBX.cell 6 _ rfl
            have dx7 := TBX.cell 7 _ rfl
            have dx8 := TBX.cell 8 _ rfl
            have dx9 := TBX.cell 9 _ rfl
            have dx10 := TBX.cell 10 _ rfl
            have px := HPX.cell 0 _ rfl
            have fz7 : pu < w7.heap.size := HPz.lt
            have tbl : tb < w7.heap.size := TB.lt
            clear TB HPz HOz HBz KP VB
            have hsz : (w7.setCell ⟨tb, 2, none⟩ (.string ((⟨#[67]⟩ : ByteArray) ++ (⟨#[48, 49, 50, 51, 52, 53, 54, 55, 56, 57]⟩ : ByteArray).extract q (q + 1)))).heap.size = w7.heap.size := by simp [World.setCell]
            have bc : ∀ (j : Nat) (x : Value), [.int .i64 2, .string (Ln.cn (q + 1)), .string ((⟨#[67]⟩ : ByteArray) ++ (⟨#[48, 49, 50, 51, 52, 53, 54, 55, 56, 57]⟩ : ByteArray).extract q (q + 1)), .slice none 0 0, .bool false, .bool false, .slice (some ⟨vb, 0, none⟩) 1 1, .slice none 0 0, .slice none 0 0, .int .i64 0, .int .i64 0][j]? = some x → (World.alloc (w7.setCell ⟨tb, 2, none⟩ (.string ((⟨#[67]⟩ : ByteArray) ++ (⟨#[48, 49, 50, 51, 52, 53, 54, 55, 56, 57]⟩ : ByteArray).extract q (q + 1)))) (.cells #[.int .i64 2, .string (Ln.cn (q + 1)), .string ((⟨#[67]⟩ : ByteArray) ++ (⟨#[48, 49, 50, 51, 52, 53, 54, 55, 56, 57]⟩ : ByteArray).extract q (q + 1)), .slice none 0 0, .bool false, .bool false, .slice (some ⟨vb, 0, none⟩) 1 1, .slice none 0 0, .slice none 0 0, .int .i64 0, .int .i64 0] 32)).cell? (Addr.add ⟨w7.heap.size, 0, none⟩ j) = some x := fun j x hj => by
              rw [Go.WideShapes.add_plain, Nat.zero_add, ← hsz]
              exact (Aid.Has.new (w7.setCell ⟨tb, 2, none⟩ (.string ((⟨#[67]⟩ : ByteArray) ++ (⟨#[48, 49, 50, 51, 52, 53, 54, 55, 56, 57]⟩ : ByteArray).extract q (q + 1)))) [.int .i64 2, .string (Ln.cn (q + 1)), .string ((⟨#[67]⟩ : ByteArray) ++ (⟨#[48, 49, 50, 51, 52, 53, 54, 55, 56, 57]⟩ : ByteArray).extract q (q + 1)), .slice none 0 0, .bool false, .bool false, .slice (some ⟨vb, 0, none⟩) 1 1, .slice none 0 0, .slice none 0 0, .int .i64 0, .int .i64 0] 32).cell j x hj
            have pz : pu + 1 ≤ (World.alloc (w7.setCell ⟨tb, 2, none⟩ (.string ((⟨#[67]⟩ : ByteArray) ++ (⟨#[48, 49, 50, 51, 52, 53, 54, 55, 56, 57]⟩ : ByteArray).extract q (q + 1)))) (.cells #[.int .i64 2, .string (Ln.cn (q + 1)), .string ((⟨#[67]⟩ : ByteArray) ++ (⟨#[48, 49, 50, 51, 52, 53, 54, 55, 56, 57]⟩ : ByteArray).extract q (q + 1)), .slice none 0 0, .bool false, .bool false, .slice (some ⟨vb, 0, none⟩) 1 1, .slice none 0 0, .slice none 0 0, .int .i64 0, .int .i64 0] 32)).heap.size := by rw [World.size_alloc, hsz]; omega
            have n10 : q + 1 ≤ 10 := by omega
            go_wp2_with (at_builtin; refine wpList_append_own _ rfl _ _ 22 rfl (pu + 1) 32 i0 (.agg #[.int .i64 0, .string ⟨#[]⟩, .string ⟨#[]⟩, .slice none 0 0, .bool false, .bool false, .slice none 0 0, .slice none 0 0, .slice none 0 0, .int .i64 0, .int .i64 0]) 11 160 Try.underlying22 hi hz0 hz1 hz2 rfl (by decide) _ _ _ rfl (HOX.alloc _) ⟨w7.heap.size, 0, none⟩ 1 1 [.int .i64 2, .string (Ln.cn (q + 1)), .string ((⟨#[67]⟩ : ByteArray) ++ (⟨#[48, 49, 50, 51, 52, 53, 54, 55, 56, 57]⟩ : ByteArray).extract q (q + 1)), .slice none 0 0, .bool false, .bool false, .slice (some ⟨vb, 0, none⟩) 1 1, .slice none 0 0, .slice none 0 0, .int .i64 0, .int .i64 0] rfl rfl bc ?d1 ?d2 ?d3 pz ?_)
            case d1 => exact fun u hu => List.all_eq_true.1 (show List.all [.int .i64 2, .string (Ln.cn (q + 1)), .string ((⟨#[67]⟩ : ByteArray) ++ (⟨#[48, 49, 50, 51, 52, 53, 54, 55, 56, 57]⟩ : ByteArray).extract q (q + 1)), .slice none 0 0, .bool false, .bool false, .slice (some ⟨vb, 0, none⟩) 1 1, .slice none 0 0, .slice none 0 0, .int .i64 0, .int .i64 0] Value.oneCell' = true from rfl) u hu
            case d2 => unfold maxLen; omega
            case d3 => omega
            · intro v2 w9 hown2 hgrow2 _
              obtain ⟨A2, c2, rfl⟩ := own_slice hown2
              have hlo : ∀ qq, (Value.slice A (q + 1) c).ownBlock = some qq → pu + 1 ≤ qq := fun qq hq => (HOX.lt qq hq).1
              have HP9 : Aid.Has w9 pu [.slice A (q + 1) c] 24 := (hgrow2.block pu (by rw [World.size_alloc, hsz]; omega) (fun e => by have := hlo pu e.symm; omega)).trans (HPX.alloc _)
              have K9 : Ln.Kp pu (w7.setCell ⟨tb, 2, none⟩ (.string ((⟨#[67]⟩ : ByteArray) ++ (⟨#[48, 49, 50, 51, 52, 53, 54, 55, 56, 57]⟩ : ByteArray).extract q (q + 1)))) (w9.setCell ⟨pu, 0, none⟩ (.slice A2 (q + 1 + 1) c2)) := (((Ln.Kp.refl pu (w7.setCell ⟨tb, 2, none⟩ (.string ((⟨#[67]⟩ : ByteArray) ++ (⟨#[48, 49, 50, 51, 52, 53, 54, 55, 56, 57]⟩ : ByteArray).extract q (q + 1))))).alloc (.cells #[.int .i64 2, .string (Ln.cn (q + 1)), .string ((⟨#[67]⟩ : ByteArray) ++ (⟨#[48, 49, 50, 51, 52, 53, 54, 55, 56, 57]⟩ : ByteArray).extract q (q + 1)), .slice none 0 0, .bool false, .bool false, .slice (some ⟨vb, 0, none⟩) 1 1, .slice none 0 0, .slice none 0 0, .int .i64 0, .int .i64 0] 32)).grown (HOX.alloc _) hgrow2).setPu 0 (.slice A2 (q + 1 + 1) c2)
              have HP10 := Aid.hid (HP9.set 0 (.slice A2 (q + 1 + 1) c2))
              have HO10 := Aid.hid (own_other hown2 (fun qq hq => by have := (hown2.lt qq hq).1; omega : ∀ qq, (Value.slice A2 (q + 1 + 1) c2).ownBlock = some qq → qq ≠ pu) 0 (.slice A2 (q + 1 + 1) c2))
              have HB10 := Aid.hid (((HBX.alloc (by rw [hsz]; omega) (.cells #[.int .i64 2, .string (Ln.cn (q + 1)), .string ((⟨#[67]⟩ : ByteArray) ++ (⟨#[48, 49, 50, 51, 52, 53, 54, 55, 56, 57]⟩ : ByteArray).extract q (q + 1)), .slice none 0 0, .bool false, .bool false, .slice (some ⟨vb, 0, none⟩) 1 1, .slice none 0 0, .slice none 0 0, .int .i64 0, .int .i64 0] 32)).grown hgrow2 (by rw [World.size_alloc, hsz]; omega) (fun qq hq => by have := hlo qq hq; have := HPU.out; omega)).setCell (p := ⟨pu, 0, none⟩) (by show w.heap.size ≤ pu; have := HPU.out; omega) (.slice A2 (q + 1 + 1) c2))
              have AD : Hid (Ln.At (w9.setCell ⟨pu, 0, none⟩ (.slice A2 (q + 1 + 1) c2)) pu (Ln.dk0 (q + 1) ((⟨#[67]⟩ : ByteArray) ++ (⟨#[48, 49, 50, 51, 52, 53, 54, 55, 56, 57]⟩ : ByteArray).extract q (q + 1)) vb)) := Aid.hid (Or.inl ⟨_, _, _, rfl, f2, K9 _ _ _ f2 (by decide) VBX⟩)
              have AL : Hid (∀ e ∈ l ++ [(Ln.dk0 (q + 1) ((⟨#[67]⟩ : ByteArray) ++ (⟨#[48, 49, 50, 51, 52, 53, 54, 55, 56, 57]⟩ : ByteArray).extract q (q + 1)) vb)], Ln.At (w9.setCell ⟨pu, 0, none⟩ (.slice A2 (q + 1 + 1) c2)) pu e) := Aid.hid (fun e he => by
                rcases List.mem_append.1 he with h | h
                · exact (LD.out e h).kept (KPX.trans K9)
                · obtain rfl : e = (Ln.dk0 (q + 1) ((⟨#[67]⟩ : ByteArray) ++ (⟨#[48, 49, 50, 51, 52, 53, 54, 55, 56, 57]⟩ : ByteArray).extract q (q + 1)) vb) := by simpa using h
                  exact AD.out)
              have LN2 : Hid ((l ++ [(Ln.dk0 (q + 1) ((⟨#[67]⟩ : ByteArray) ++ (⟨#[48, 49, 50, 51, 52, 53, 54, 55, 56, 57]⟩ : ByteArray).extract q (q + 1)) vb)]).length = q + 1 + 1) := Aid.hid (by rw [List.length_append, HN.out]; rfl)
              have LI : Hid (Ln.Line no (l ++ [(Ln.dk0 (q + 1) ((⟨#[67]⟩ : ByteArray) ++ (⟨#[48, 49, 50, 51, 52, 53, 54, 55, 56, 57]⟩ : ByteArray).extract q (q + 1)) vb)])) := Aid.hid (LL.out.snoc (by rw [HN.out]; exact Ln.is0 (fun h => by omega) (fun q' h => (show q = q' by omega) ▸ rfl) (fun h => h.elim HNO.out (by omega))))
              have ED : Hid (((l ++ [(Ln.dk0 (q + 1) ((⟨#[67]⟩ : ByteArray) ++ (⟨#[48, 49, 50, 51, 52, 53, 54, 55, 56, 57]⟩ : ByteArray).extract q (q + 1)) vb)]).map Dk.cells).flatten = (l.map Dk.cells).flatten ++ [.int .i64 2, .string (Ln.cn (q + 1)), .string ((⟨#[67]⟩ : ByteArray) ++ (⟨#[48, 49, 50, 51, 52, 53, 54, 55, 56, 57]⟩ : ByteArray).extract q (q + 1)), .slice none 0 0, .bool false, .bool false, .slice (some ⟨vb, 0, none⟩) 1 1, .slice none 0 0, .slice none 0 0, .int .i64 0, .int .i64 0]) := Aid.hid (by rw [List.map_append, List.flatten_append]; rfl)
              have S10 : Hid (pu + 1 ≤ (w9.setCell ⟨pu, 0, none⟩ (.slice A2 (q + 1 + 1) c2)).heap.size) := Aid.hid (by have := HP9.lt; simp [World.setCell]; omega)
              have hp9 := HP9.cell 0 _ rfl
              have hpf := HP9.frozen 0
              clear hown2 hgrow2 HPX HOX HBX VBX KPX K9 TBX bc HP9 px dx0 dx1 dx2 dx3 dx4 dx5 dx6 dx7 dx8 dx9 dx10
              go_wp2_with fail
              go_roundw
              case rel => exact ⟨l ++ [(Ln.dk0 (q + 1) ((⟨#[67]⟩ : ByteArray) ++ (⟨#[48, 49, 50, 51, 52, 53, 54, 55, 56, 57]⟩ : ByteArray).extract q (q + 1)) vb)], A2, c2, by rw [LN2.out]; first | rfl | go_num | simp, by rw [LN2.out]; omega, LI, AL, Aid.hid (by rw [LN2.out]; exact HP10.out), Aid.hid (by rw [LN2.out, ED.out]; exact HO10.out), HB10, S10⟩
              case measure => simp [intOf]; omega
      refine Ord.wp_region_go (fun _ => True) 15 [0, 1, 2, 3, 4, 5, 6, 7, 8, 9, 10, 11, 13] (by kernel_rfl) (by kernel_rfl) (fun _ _ _ _ _ h => by cases h.1) (trivial) ?_
      apply Ord.go_light (i := 0) (by kernel_rfl)
      next => (simp only [List.getElem?_toArray, List.getElem?_cons_zero]; rfl)
      next => rfl
      next => (intro w' hSw; clear hSw; go_simp; first | done | with_reducible rfl)
      simp only [Act.put, List.setIfInBounds_toArray, List.set_cons_zero, List.set_cons_succ]
      apply Ord.go_light (i := 1) (by kernel_rfl)
      next => (simp only [List.getElem?_toArray, List.getElem?_cons_succ, List.getElem?_cons_zero]; rfl)
      next => rfl
      next => (intro w' hSw; clear hSw; go_simp; first | done | with_reducible rfl)
      simp only [Act.put, List.setIfInBounds_toArray, List.set_cons_zero, List.set_cons_succ]
      apply Ord.go_light (i := 2) (by kernel_rfl)
      next => (simp only [List.getElem?_toArray, List.getElem?_cons_succ, List.getElem?_cons_zero]; rfl)
      next => rfl
      next => (intro w' hSw; clear hSw; go_simp; first | done | with_reducible rfl)
      simp only [Act.put, List.setIfInBounds_toArray, List.set_cons_zero, List.set_cons_succ]
      apply Ord.go_light (i := 3) (by kernel_rfl)
      next => (simp only [List.getElem?_toArray, List.getElem?_cons_succ, List.getElem?_cons_zero]; rfl)
      next => rfl
      next => (intro w' hSw; clear hSw; go_simp; rw [W1.out, if_pos C1.out, if_pos C2.out, T1.out]; first | done | with_reducible rfl)
      simp only [Act.put, List.setIfInBounds_toArray, List.set_cons_zero, List.set_cons_succ]
      apply Ord.go_light (i := 4) (by kernel_rfl)
      next => (simp only [List.getElem?_toArray, List.getElem?_cons_succ, List.getElem?_cons_zero]; rfl)
      next => rfl
      next => (intro w' hSw; clear hSw; go_simp; rw [if_neg N1.out]; first | done | with_reducible rfl)
      simp only [Act.put, List.setIfInBounds_toArray, List.set_cons_zero, List.set_cons_succ]
      apply Ord.go_light (i := 5) (by kernel_rfl)
      next => (simp only [List.getElem?_toArray, List.getElem?_cons_succ, List.getElem?_cons_zero]; rfl)
      next => rfl
      next => (intro w' hSw; clear hSw; go_simp; first | done | with_reducible rfl)
      simp only [Act.put, List.setIfInBounds_toArray, List.set_cons_zero, List.set_cons_succ]
      apply Ord.go_light (i := 6) (by kernel_rfl)
      next => (simp only [List.getElem?_toArray, List.getElem?_cons_succ, List.getElem?_cons_zero]; rfl)
      next => rfl
      next => (intro w' hSw; clear hSw; go_simp; first | done | with_reducible rfl)
      simp only [Act.put, List.setIfInBounds_toArray, List.set_cons_zero, List.set_cons_succ]
      apply Ord.go_light (i := 7) (by kernel_rfl)
      next => (simp only [List.getElem?_toArray, List.getElem?_cons_succ, List.getElem?_cons_zero]; rfl)
      next => rfl
      next => (intro w' hSw; clear hSw; go_simp; first | done | with_reducible rfl)
      simp only [Act.put, List.setIfInBounds_toArray, List.set_cons_zero, List.set_cons_succ]
      apply Ord.go_light (i := 8) (by kernel_rfl)
      next => (simp only [List.getElem?_toArray, List.getElem?_cons_succ, List.getElem?_cons_zero]; rfl)
      next => rfl
      next => (intro w' hSw; clear hSw; go_simp; rw [W1.out, if_pos C1.out, if_pos C2.out, T1.out]; first | done | with_reducible rfl)
      simp only [Act.put, List.setIfInBounds_toArray, List.set_cons_zero, List.set_cons_succ]
      apply Ord.go_light (i := 9) (by kernel_rfl)
      next => (simp only [List.getElem?_toArray, List.getElem?_cons_succ, List.getElem?_cons_zero]; rfl)
      next => rfl
      next => (intro w' hSw; clear hSw; go_simp; rw [if_neg N1.out]; first | done | with_reducible rfl)
      simp only [Act.put, List.setIfInBounds_toArray, List.set_cons_zero, List.set_cons_succ]
      apply Ord.go_light (i := 10) (by kernel_rfl)
      next => (simp only [List.getElem?_toArray, List.getElem?_cons_succ, List.getElem?_cons_zero]; rfl)
      next => rfl
      next => (intro w' hSw; clear hSw; go_simp; first | done | with_reducible rfl)
      simp only [Act.put, List.setIfInBounds_toArray, List.set_cons_zero, List.set_cons_succ]
      apply Ord.go_light (i := 11) (by kernel_rfl)
      next => (simp only [List.getElem?_toArray, List.getElem?_cons_succ, List.getElem?_cons_zero]; rfl)
      next => rfl
      next => (intro w' hSw; clear hSw; go_simp; first | done | with_reducible rfl)
      simp only [Act.put, List.setIfInBounds_toArray, List.set_cons_zero, List.set_cons_succ]
      refine Ord.go_two (i := 12) (j := 14) (by kernel_rfl) (by kernel_rfl) ?_ ?_
      ·
        apply Ord.go_done1
        next => (simp only [List.getElem?_toArray, List.getElem?_cons_succ, List.getElem?_cons_zero]; rfl)
        next => rfl
        intro K hK
        go_wp2_with fail
        refine hK.out _ _ trivial (fun hHeld => ?_)
        clear hHeld
        clear hK K
        try simp only [Act.put, List.setIfInBounds_toArray, List.set_cons_zero, List.set_cons_succ]
        apply Ord.go_light (i := 13) (by kernel_rfl)
        next => (simp only [List.getElem?_toArray, List.getElem?_cons_succ, List.getElem?_cons_zero]; rfl)
        next => rfl
        next => (intro w' hSw; clear hSw; go_simp; first | done | with_reducible rfl)
        simp only [Act.put, List.setIfInBounds_toArray, List.set_cons_zero, List.set_cons_succ]
        refine Ord.go_one (i := 14) (by kernel_rfl) (by kernel_rfl) ?_
        apply Ord.go_done1
        next => (simp only [List.getElem?_toArray, List.getElem?_cons_succ, List.getElem?_cons_zero]; rfl)
        next => rfl
        intro K hK
        go_wp2_with fail
        refine hK.out _ _ trivial (fun hHeld => ?_)
        clear hHeld
        clear hK K
        try simp only [Act.put, List.setIfInBounds_toArray, List.set_cons_zero, List.set_cons_succ]
        refine Ord.go_tail ?_; simp only [List.drop_succ_cons, List.drop_zero]
        have VB : Aid.Has (World.drew ((wr.alloc (.cells #[.string (Ln.fn n), .int .i64 0, .int .i64 0, .int .i64 0, .string ⟨#[]⟩, .int .i64 n, .int .i64 0, .int .i64 0] 44)).alloc (.cells #[.int .i64 0, .string ⟨#[]⟩, .string ⟨#[]⟩, .slice none 0 0, .bool false, .bool false, .slice none 0 0, .slice none 0 0, .slice none 0 0, .int .i64 0, .int .i64 0] 32))) (wr.heap.size) (Ln.fv n).cells 44 := by
          first | exact ((Aid.Has.new wr (Ln.fv n).cells 44).alloc _).drew | (have h := Aid.Has.new (wr.alloc (.cells #[.int .i64 0, .string ⟨#[]⟩, .string ⟨#[]⟩, .slice none 0 0, .bool false, .bool false, .slice none 0 0, .slice none 0 0, .slice none 0 0, .int .i64 0, .int .i64 0] 32)) (Ln.fv n).cells 44; rw [World.size_alloc] at h; exact h.drew)
        have TB : Aid.Has (World.drew ((wr.alloc (.cells #[.string (Ln.fn n), .int .i64 0, .int .i64 0, .int .i64 0, .string ⟨#[]⟩, .int .i64 n, .int .i64 0, .int .i64 0] 44)).alloc (.cells #[.int .i64 0, .string ⟨#[]⟩, .string ⟨#[]⟩, .slice none 0 0, .bool false, .bool false, .slice none 0 0, .slice none 0 0, .slice none 0 0, .int .i64 0, .int .i64 0] 32))) (wr.heap.size + 1) [.int .i64 0, .string ⟨#[]⟩, .string ⟨#[]⟩, .slice none 0 0, .bool false, .bool false, .slice none 0 0, .slice none 0 0, .slice none 0 0, .int .i64 0, .int .i64 0] 32 := by
          first | exact ((Aid.Has.new wr [.int .i64 0, .string ⟨#[]⟩, .string ⟨#[]⟩, .slice none 0 0, .bool false, .bool false, .slice none 0 0, .slice none 0 0, .slice none 0 0, .int .i64 0, .int .i64 0] 32).alloc _).drew | (have h := Aid.Has.new (wr.alloc (.cells #[.string (Ln.fn n), .int .i64 0, .int .i64 0, .int .i64 0, .string ⟨#[]⟩, .int .i64 n, .int .i64 0, .int .i64 0] 44)) [.int .i64 0, .string ⟨#[]⟩, .string ⟨#[]⟩, .slice none 0 0, .bool false, .bool false, .slice none 0 0, .slice none 0 0, .slice none 0 0, .int .i64 0, .int .i64 0] 32; rw [World.size_alloc] at h; exact h.drew)
        have KP : Ln.Kp pu wr (World.drew ((wr.alloc (.cells #[.string (Ln.fn n), .int .i64 0, .int .i64 0, .int .i64 0, .string ⟨#[]⟩, .int .i64 n, .int .i64 0, .int .i64 0] 44)).alloc (.cells #[.int .i64 0, .string ⟨#[]⟩, .string ⟨#[]⟩, .slice none 0 0, .bool false, .bool false, .slice none 0 0, .slice none 0 0, .slice none 0 0, .int .i64 0, .int .i64 0] 32))) := (((Ln.Kp.refl pu wr).alloc _).alloc _).drew
        have HPz : Aid.Has (World.drew ((wr.alloc (.cells #[.string (Ln.fn n), .int .i64 0, .int .i64 0, .int .i64 0, .string ⟨#[]⟩, .int .i64 n, .int .i64 0, .int .i64 0] 44)).alloc (.cells #[.int .i64 0, .string ⟨#[]⟩, .string ⟨#[]⟩, .slice none 0 0, .bool false, .bool false, .slice none 0 0, .slice none 0 0, .slice none 0 0, .int .i64 0, .int .i64 0] 32))) pu [.slice A n c] 24 := ((HP.out.alloc _).alloc _).drew
        have HOz : World.ownsRow (World.drew ((wr.alloc (.cells #[.string (Ln.fn n), .int .i64 0, .int .i64 0, .int .i64 0, .string ⟨#[]⟩, .int .i64 n, .int .i64 0, .int .i64 0] 44)).alloc (.cells #[.int .i64 0, .string ⟨#[]⟩, .string ⟨#[]⟩, .slice none 0 0, .bool false, .bool false, .slice none 0 0, .slice none 0 0, .slice none 0 0, .int .i64 0, .int .i64 0] 32))) (pu + 1) 32 11 (.slice A n c) n (l.map Dk.cells).flatten := (show World.ownsRow ((wr.alloc (.cells #[.string (Ln.fn n), .int .i64 0, .int .i64 0, .int .i64 0, .string ⟨#[]⟩, .int .i64 n, .int .i64 0, .int .i64 0] 44)).alloc (.cells #[.int .i64 0, .string ⟨#[]⟩, .string ⟨#[]⟩, .slice none 0 0, .bool false, .bool false, .slice none 0 0, .slice none 0 0, .slice none 0 0, .int .i64 0, .int .i64 0] 32)) (pu + 1) 32 11 (.slice A n c) n (l.map Dk.cells).flatten from (HO.out.alloc _).alloc _)
        have hsz := HS.out
        have hpw : w.heap.size ≤ wr.heap.size := HB.out.size
        have HBz : Below w.heap.size w (World.drew ((wr.alloc (.cells #[.string (Ln.fn n), .int .i64 0, .int .i64 0, .int .i64 0, .string ⟨#[]⟩, .int .i64 n, .int .i64 0, .int .i64 0] 44)).alloc (.cells #[.int .i64 0, .string ⟨#[]⟩, .string ⟨#[]⟩, .slice none 0 0, .bool false, .bool false, .slice none 0 0, .slice none 0 0, .slice none 0 0, .int .i64 0, .int .i64 0] 32))) := ((HB.out.alloc hpw _).alloc (by rw [World.size_alloc]; omega) _).drew
        have hlow : ∀ q, (Value.slice A n c).ownBlock = some q → q < wr.heap.size := fun q hq => (HO.out.lt q hq).2
        have f1 : pu < wr.heap.size + 1 := by omega
        have f2 : pu < wr.heap.size := by omega
        have f3 : ∀ q, (Value.slice A n c).ownBlock = some q → q ≠ wr.heap.size + 1 := fun q hq => by have := hlow q hq; omega
        have f4 : wr.heap.size ≠ wr.heap.size + 1 := by omega
        have f5 : w.heap.size ≤ wr.heap.size + 1 := by omega
        clear hlow hsz hpw
        change wpList _ _ _ _ _ (World.drew ((wr.alloc (.cells #[.string (Ln.fn n), .int .i64 0, .int .i64 0, .int .i64 0, .string ⟨#[]⟩, .int .i64 n, .int .i64 0, .int .i64 0] 44)).alloc (.cells #[.int .i64 0, .string ⟨#[]⟩, .string ⟨#[]⟩, .slice none 0 0, .bool false, .bool false, .slice none 0 0, .slice none 0 0, .slice none 0 0, .int .i64 0, .int .i64 0] 32)))
        generalize World.drew ((wr.alloc (.cells #[.string (Ln.fn n), .int .i64 0, .int .i64 0, .int .i64 0, .string ⟨#[]⟩, .int .i64 n, .int .i64 0, .int .i64 0] 44)).alloc (.cells #[.int .i64 0, .string ⟨#[]⟩, .string ⟨#[]⟩, .slice none 0 0, .bool false, .bool false, .slice none 0 0, .slice none 0 0, .slice none 0 0, .int .i64 0, .int .i64 0] 32)) = wz at VB TB KP HPz HOz HBz ⊢
        generalize wr.heap.size + 1 = tb at TB f1 f3 f4 f5 ⊢
        generalize wr.heap.size = vb at VB f2 f4 ⊢
        have TB2 : Aid.Has (wz.setRow tb #[.int .i64 2, .string (Ln.cn n), .string ⟨#[]⟩, .slice none 0 0, .bool false, .bool false, .slice (some ⟨vb, 0, none⟩) 1 1, .slice none 0 0, .slice none 0 0, .int .i64 0, .int .i64 0]) tb [.int .i64 2, .string (Ln.cn n), .string ⟨#[]⟩, .slice none 0 0, .bool false, .bool false, .slice (some ⟨vb, 0, none⟩) 1 1, .slice none 0 0, .slice none 0 0, .int .i64 0, .int .i64 0] 32 := row_has (ys := [.int .i64 2, .string (Ln.cn n), .string ⟨#[]⟩, .slice none 0 0, .bool false, .bool false, .slice (some ⟨vb, 0, none⟩) 1 1, .slice none 0 0, .slice none 0 0, .int .i64 0, .int .i64 0]) TB
        have KP2 : Ln.Kp pu wr (wz.setRow tb #[.int .i64 2, .string (Ln.cn n), .string ⟨#[]⟩, .slice none 0 0, .bool false, .bool false, .slice (some ⟨vb, 0, none⟩) 1 1, .slice none 0 0, .slice none 0 0, .int .i64 0, .int .i64 0]) := KP.setRow TB _
        have HP2 : Aid.Has (wz.setRow tb #[.int .i64 2, .string (Ln.cn n), .string ⟨#[]⟩, .slice none 0 0, .bool false, .bool false, .slice (some ⟨vb, 0, none⟩) 1 1, .slice none 0 0, .slice none 0 0, .int .i64 0, .int .i64 0]) pu [.slice A n c] 24 := row_other HPz _ (by omega)
        have VB2 : Aid.Has (wz.setRow tb #[.int .i64 2, .string (Ln.cn n), .string ⟨#[]⟩, .slice none 0 0, .bool false, .bool false, .slice (some ⟨vb, 0, none⟩) 1 1, .slice none 0 0, .slice none 0 0, .int .i64 0, .int .i64 0]) vb (Ln.fv n).cells 44 := row_other VB _ f4
        have HO2 : World.ownsRow (wz.setRow tb #[.int .i64 2, .string (Ln.cn n), .string ⟨#[]⟩, .slice none 0 0, .bool false, .bool false, .slice (some ⟨vb, 0, none⟩) 1 1, .slice none 0 0, .slice none 0 0, .int .i64 0, .int .i64 0]) (pu + 1) 32 11 (.slice A n c) n (l.map Dk.cells).flatten := row_own HOz f3 _
        have HB2 : Below w.heap.size w (wz.setRow tb #[.int .i64 2, .string (Ln.cn n), .string ⟨#[]⟩, .slice none 0 0, .bool false, .bool false, .slice (some ⟨vb, 0, none⟩) 1 1, .slice none 0 0, .slice none 0 0, .int .i64 0, .int .i64 0]) := row_below HBz f5 _
        refine wpList_store_row rfl 32 _ _ rfl tb #[.int .i64 2, .string (Ln.cn n), .string ⟨#[]⟩, .slice none 0 0, .bool false, .bool false, .slice (some ⟨vb, 0, none⟩) 1 1, .slice none 0 0, .slice none 0 0, .int .i64 0, .int .i64 0] rfl rfl 32 #[.int .i64 0, .string ⟨#[]⟩, .string ⟨#[]⟩, .slice none 0 0, .bool false, .bool false, .slice none 0 0, .slice none 0 0, .slice none 0 0, .int .i64 0, .int .i64 0] TB (by kernel_rfl) rfl (by simp [Value.oneCell']) ?_
        refine wpList_nil ?_
        refine ⟨rfl, tb, vb, ?_, TB2, KP2, HP2, VB2, HO2, HB2, f1, f2, f5, f3, f4⟩
        simp only [putL, Act.put, List.setIfInBounds_toArray, List.set_cons_zero, List.set_cons_succ]
        try rfl
      ·
        apply Ord.go_done1
        next => (simp only [List.getElem?_toArray, List.getElem?_cons_succ, List.getElem?_cons_zero]; rfl)
        next => rfl
        intro K hK
        go_wp2_with fail
        refine hK.out _ _ trivial (fun hHeld => ?_)
        clear hHeld
        clear hK K
        try simp only [Act.put, List.setIfInBounds_toArray, List.set_cons_zero, List.set_cons_succ]
        refine Ord.go_one (i := 12) (by kernel_rfl) (by kernel_rfl) ?_
        apply Ord.go_done1
        next => (simp only [List.getElem?_toArray, List.getElem?_cons_succ, List.getElem?_cons_zero]; rfl)
        next => rfl
        intro K hK
        go_wp2_with fail
        refine hK.out _ _ trivial (fun hHeld => ?_)
        clear hHeld
        clear hK K
        try simp only [Act.put, List.setIfInBounds_toArray, List.set_cons_zero, List.set_cons_succ]
        apply Ord.go_light (i := 13) (by kernel_rfl)
        next => (simp only [List.getElem?_toArray, List.getElem?_cons_succ, List.getElem?_cons_zero]; rfl)
        next => rfl
        next => (intro w' hSw; clear hSw; go_simp; first | done | with_reducible rfl)
        simp only [Act.put, List.setIfInBounds_toArray, List.set_cons_zero, List.set_cons_succ]
        refine Ord.go_tail ?_; simp only [List.drop_succ_cons, List.drop_zero]
        have VB : Aid.Has (World.drew ((wr.alloc (.cells #[.int .i64 0, .string ⟨#[]⟩, .string ⟨#[]⟩, .slice none 0 0, .bool false, .bool false, .slice none 0 0, .slice none 0 0, .slice none 0 0, .int .i64 0, .int .i64 0] 32)).alloc (.cells #[.string (Ln.fn n), .int .i64 0, .int .i64 0, .int .i64 0, .string ⟨#[]⟩, .int .i64 n, .int .i64 0, .int .i64 0] 44))) (wr.heap.size + 1) (Ln.fv n).cells 44 := by
          first | exact ((Aid.Has.new wr (Ln.fv n).cells 44).alloc _).drew | (have h := Aid.Has.new (wr.alloc (.cells #[.int .i64 0, .string ⟨#[]⟩, .string ⟨#[]⟩, .slice none 0 0, .bool false, .bool false, .slice none 0 0, .slice none 0 0, .slice none 0 0, .int .i64 0, .int .i64 0] 32)) (Ln.fv n).cells 44; rw [World.size_alloc] at h; exact h.drew)
        have TB : Aid.Has (World.drew ((wr.alloc (.cells #[.int .i64 0, .string ⟨#[]⟩, .string ⟨#[]⟩, .slice none 0 0, .bool false, .bool false, .slice none 0 0, .slice none 0 0, .slice none 0 0, .int .i64 0, .int .i64 0] 32)).alloc (.cells #[.string (Ln.fn n), .int .i64 0, .int .i64 0, .int .i64 0, .string ⟨#[]⟩, .int .i64 n, .int .i64 0, .int .i64 0] 44))) (wr.heap.size) [.int .i64 0, .string ⟨#[]⟩, .string ⟨#[]⟩, .slice none 0 0, .bool false, .bool false, .slice none 0 0, .slice none 0 0, .slice none 0 0, .int .i64 0, .int .i64 0] 32 := by
          first | exact ((Aid.Has.new wr [.int .i64 0, .string ⟨#[]⟩, .string ⟨#[]⟩, .slice none 0 0, .bool false, .bool false, .slice none 0 0, .slice none 0 0, .slice none 0 0, .int .i64 0, .int .i64 0] 32).alloc _).drew | (have h := Aid.Has.new (wr.alloc (.cells #[.string (Ln.fn n), .int .i64 0, .int .i64 0, .int .i64 0, .string ⟨#[]⟩, .int .i64 n, .int .i64 0, .int .i64 0] 44)) [.int .i64 0, .string ⟨#[]⟩, .string ⟨#[]⟩, .slice none 0 0, .bool false, .bool false, .slice none 0 0, .slice none 0 0, .slice none 0 0, .int .i64 0, .int .i64 0] 32; rw [World.size_alloc] at h; exact h.drew)
        have KP : Ln.Kp pu wr (World.drew ((wr.alloc (.cells #[.int .i64 0, .string ⟨#[]⟩, .string ⟨#[]⟩, .slice none 0 0, .bool false, .bool false, .slice none 0 0, .slice none 0 0, .slice none 0 0, .int .i64 0, .int .i64 0] 32)).alloc (.cells #[.string (Ln.fn n), .int .i64 0, .int .i64 0, .int .i64 0, .string ⟨#[]⟩, .int .i64 n, .int .i64 0, .int .i64 0] 44))) := (((Ln.Kp.refl pu wr).alloc _).alloc _).drew
        have HPz : Aid.Has (World.drew ((wr.alloc (.cells #[.int .i64 0, .string ⟨#[]⟩, .string ⟨#[]⟩, .slice none 0 0, .bool false, .bool false, .slice none 0 0, .slice none 0 0, .slice none 0 0, .int .i64 0, .int .i64 0] 32)).alloc (.cells #[.string (Ln.fn n), .int .i64 0, .int .i64 0, .int .i64 0, .string ⟨#[]⟩, .int .i64 n, .int .i64 0, .int .i64 0] 44))) pu [.slice A n c] 24 := ((HP.out.alloc _).alloc _).drew
        have HOz : World.ownsRow (World.drew ((wr.alloc (.cells #[.int .i64 0, .string ⟨#[]⟩, .string ⟨#[]⟩, .slice none 0 0, .bool false, .bool false, .slice none 0 0, .slice none 0 0, .slice none 0 0, .int .i64 0, .int .i64 0] 32)).alloc (.cells #[.string (Ln.fn n), .int .i64 0, .int .i64 0, .int .i64 0, .string ⟨#[]⟩, .int .i64 n, .int .i64 0, .int .i64 0] 44))) (pu + 1) 32 11 (.slice A n c) n (l.map Dk.cells).flatten := (show World.ownsRow ((wr.alloc (.cells #[.int .i64 0, .string ⟨#[]⟩, .string ⟨#[]⟩, .slice none 0 0, .bool false, .bool false, .slice none 0 0, .slice none 0 0, .slice none 0 0, .int .i64 0, .int .i64 0] 32)).alloc (.cells #[.string (Ln.fn n), .int .i64 0, .int .i64 0, .int .i64 0, .string ⟨#[]⟩, .int .i64 n, .int .i64 0, .int .i64 0] 44)) (pu + 1) 32 11 (.slice A n c) n (l.map Dk.cells).flatten from (HO.out.alloc _).alloc _)
        have hsz := HS.out
        have hpw : w.heap.size ≤ wr.heap.size := HB.out.size
        have HBz : Below w.heap.size w (World.drew ((wr.alloc (.cells #[.int .i64 0, .string ⟨#[]⟩, .string ⟨#[]⟩, .slice none 0 0, .bool false, .bool false, .slice none 0 0, .slice none 0 0, .slice none 0 0, .int .i64 0, .int .i64 0] 32)).alloc (.cells #[.string (Ln.fn n), .int .i64 0, .int .i64 0, .int .i64 0, .string ⟨#[]⟩, .int .i64 n, .int .i64 0, .int .i64 0] 44))) := ((HB.out.alloc hpw _).alloc (by rw [World.size_alloc]; omega) _).drew
        have hlow : ∀ q, (Value.slice A n c).ownBlock = some q → q < wr.heap.size := fun q hq => (HO.out.lt q hq).2
        have f1 : pu < wr.heap.size := by omega
        have f2 : pu < wr.heap.size + 1 := by omega
        have f3 : ∀ q, (Value.slice A n c).ownBlock = some q → q ≠ wr.heap.size := fun q hq => by have := hlow q hq; omega
        have f4 : wr.heap.size + 1 ≠ wr.heap.size := by omega
        have f5 : w.heap.size ≤ wr.heap.size := by omega
        clear hlow hsz hpw
        change wpList _ _ _ _ _ (World.drew ((wr.alloc (.cells #[.int .i64 0, .string ⟨#[]⟩, .string ⟨#[]⟩, .slice none 0 0, .bool false, .bool false, .slice none 0 0, .slice none 0 0, .slice none 0 0, .int .i64 0, .int .i64 0] 32)).alloc (.cells #[.string (Ln.fn n), .int .i64 0, .int .i64 0, .int .i64 0, .string ⟨#[]⟩, .int .i64 n, .int .i64 0, .int .i64 0] 44)))
        generalize World.drew ((wr.alloc (.cells #[.int .i64 0, .string ⟨#[]⟩, .string ⟨#[]⟩, .slice none 0 0, .bool false, .bool false, .slice none 0 0, .slice none 0 0, .slice none 0 0, .int .i64 0, .int .i64 0] 32)).alloc (.cells #[.string (Ln.fn n), .int .i64 0, .int .i64 0, .int .i64 0, .string ⟨#[]⟩, .int .i64 n, .int .i64 0, .int .i64 0] 44)) = wz at VB TB KP HPz HOz HBz ⊢
        generalize wr.heap.size + 1 = vb at VB f2 f4 ⊢
        generalize wr.heap.size = tb at TB f1 f3 f4 f5 ⊢
        have TB2 : Aid.Has (wz.setRow tb #[.int .i64 2, .string (Ln.cn n), .string ⟨#[]⟩, .slice none 0 0, .bool false, .bool false, .slice (some ⟨vb, 0, none⟩) 1 1, .slice none 0 0, .slice none 0 0, .int .i64 0, .int .i64 0]) tb [.int .i64 2, .string (Ln.cn n), .string ⟨#[]⟩, .slice none 0 0, .bool false, .bool false, .slice (some ⟨vb, 0, none⟩) 1 1, .slice none 0 0, .slice none 0 0, .int .i64 0, .int .i64 0] 32 := row_has (ys := [.int .i64 2, .string (Ln.cn n), .string ⟨#[]⟩, .slice none 0 0, .bool false, .bool false, .slice (some ⟨vb, 0, none⟩) 1 1, .slice none 0 0, .slice none 0 0, .int .i64 0, .int .i64 0]) TB
        have KP2 : Ln.Kp pu wr (wz.setRow tb #[.int .i64 2, .string (Ln.cn n), .string ⟨#[]⟩, .slice none 0 0, .bool false, .bool false, .slice (some ⟨vb, 0, none⟩) 1 1, .slice none 0 0, .slice none 0 0, .int .i64 0, .int .i64 0]) := KP.setRow TB _
        have HP2 : Aid.Has (wz.setRow tb #[.int .i64 2, .string (Ln.cn n), .string ⟨#[]⟩, .slice none 0 0, .bool false, .bool false, .slice (some ⟨vb, 0, none⟩) 1 1, .slice none 0 0, .slice none 0 0, .int .i64 0, .int .i64 0]) pu [.slice A n c] 24 := row_other HPz _ (by omega)
        have VB2 : Aid.Has (wz.setRow tb #[.int .i64 2, .string (Ln.cn n), .string ⟨#[]⟩, .slice none 0 0, .bool false, .bool false, .slice (some ⟨vb, 0, none⟩) 1 1, .slice none 0 0, .slice none 0 0, .int .i64 0, .int .i64 0]) vb (Ln.fv n).cells 44 := row_other VB _ f4
        have HO2 : World.ownsRow (wz.setRow tb #[.int .i64 2, .string (Ln.cn n), .string ⟨#[]⟩, .slice none 0 0, .bool false, .bool false, .slice (some ⟨vb, 0, none⟩) 1 1, .slice none 0 0, .slice none 0 0, .int .i64 0, .int .i64 0]) (pu + 1) 32 11 (.slice A n c) n (l.map Dk.cells).flatten := row_own HOz f3 _
        have HB2 : Below w.heap.size w (wz.setRow tb #[.int .i64 2, .string (Ln.cn n), .string ⟨#[]⟩, .slice none 0 0, .bool false, .bool false, .slice (some ⟨vb, 0, none⟩) 1 1, .slice none 0 0, .slice none 0 0, .int .i64 0, .int .i64 0]) := row_below HBz f5 _
        refine wpList_store_row rfl 32 _ _ rfl tb #[.int .i64 2, .string (Ln.cn n), .string ⟨#[]⟩, .slice none 0 0, .bool false, .bool false, .slice (some ⟨vb, 0, none⟩) 1 1, .slice none 0 0, .slice none 0 0, .int .i64 0, .int .i64 0] rfl rfl 32 #[.int .i64 0, .string ⟨#[]⟩, .string ⟨#[]⟩, .slice none 0 0, .bool false, .bool false, .slice none 0 0, .slice none 0 0, .slice none 0 0, .int .i64 0, .int .i64 0] TB (by kernel_rfl) rfl (by simp [Value.oneCell']) ?_
        refine wpList_nil ?_
        refine ⟨rfl, tb, vb, ?_, TB2, KP2, HP2, VB2, HO2, HB2, f1, f2, f5, f3, f4⟩
        simp only [putL, Act.put, List.setIfInBounds_toArray, List.set_cons_zero, List.set_cons_succ]
        try rfl
    · obtain rfl : n = M := by omega
      have HP1 : Aid.Has wr pu [.slice A l.length c] 24 := by rw [HN.out]; exact HP.out
      have UL : UnitAt wr wr.heap.size A l := by
        refine ⟨Rows.of_own (rows := l.map Dk.cells) (Dk.len _) (c := c) (base := pu + 1) (e := 32) ?_, fun d hd => (LD.out d hd).dk, by rw [HN.out]; omega⟩
        rw [List.length_map, HN.out]; exact HO.out
      have l10 : l.length ≤ 10 := by rw [HN.out]; exact hm3
      have hna : na < l.length := by rw [HN.out]; exact ha2
      have hno : no < l.length := by rw [HN.out]; exact ho2
      obtain ⟨i1, gi, gz0, gz1, gz2⟩ := info_parts info_int
      obtain ⟨i2, vi, vz0, vz1, vz2⟩ := info_parts info_var
      have HUL := Aid.hid UL
      have HPL := HP1.lt
      have PC := Aid.hid (HP1.cell 0 _ rfl)
      have HMM : Hid (∀ x ∈ l, x.vs.length ≤ 1048576) := Aid.hid (fun x hx => by
        obtain ⟨i, hi⟩ := List.getElem?_of_mem hx
        rw [(LL.out i x hi).vars]; show (1 : Nat) ≤ 1048576; omega)
      clear HP HO HP1 UL LD HS hlt hk
      go_wp2_with fail
      generalize wr = W1 at *
      go_loopw [10, 12] (fun vl vi wr => ∃ (j : Nat) (A' : Option Addr) (c' : Nat), j ≤ na + 1 ∧ vi = .int .i64 ((na : Int) - (j : Int)) ∧ vl = .slice A' (Ln.down na j).length c' ∧ Hid (wr.ownsRow W1.heap.size 3 1 (.slice A' (Ln.down na j).length c') (Ln.down na j).length ((Ln.down na j).map (Value.int .i64))) ∧ Hid (Below W1.heap.size W1 wr)) (fun _ vi _ => (intOf vi + 1).toNat)
      case atStart => exact ⟨0, none, 0, Nat.zero_le _, by simp, rfl, Aid.hid (World.ownsRow_nil _ _ _ _), Aid.hid (Below.refl _ _)⟩
      case round =>
        obtain ⟨j, A', c', hj, rfl, rfl, O, HB1⟩ := hrel
        have dl : (Ln.down na j).length = j := Ln.down_len _ _
        have DLN := Aid.hid dl
        by_cases hjl : j ≤ na
        · have e1 : (na : Int) - (j : Int) = ((na - j : Nat) : Int) := by omega
          rw [e1]
          have SN := Aid.hid (Ln.down_snoc j na hjl)
          have t0 : decide ((0 : Int) ≤ ((na - j : Nat) : Int)) = true := by simp
          have z1 : W1.heap.size ≤ wr.heap.size := HB1.out.size
          clear e1 dl
          go_wp2_with (at_builtin; refine wpList_append_own _ rfl _ _ 36 rfl W1.heap.size 3 i1 (.int .i64 0) 1 8 Try.underlying36 gi gz0 gz1 gz2 rfl (by decide) _ _ _ rfl (O.out.alloc _) ⟨wr.heap.size, 0, none⟩ 1 1 [.int .i64 ((na - j : Nat) : Int)] rfl rfl ?c1 ?c2 ?c3 ?c4 ?c5 ?_)
          case c1 =>
            intro k q hk
            match k, hk with
            | 0, hk => simp at hk; subst hk; simp [Addr.add]
          case c2 => intro q hq; simp at hq; subst hq; rfl
          case c3 => have := DLN.out; unfold maxLen; omega
          case c4 => have := DLN.out; omega
          case c5 => simp; omega
          · intro v' w3 hown' hgrow _
            obtain ⟨A5, c5, rfl⟩ := own_slice hown'
            have HB3 : Hid (Below W1.heap.size W1 w3) := Aid.hid ((HB1.out.alloc z1 _).grown hgrow (by simp; omega) (fun q hq => (O.out.lt q hq).1))
            have e5 : Hid ((Ln.down na j).length + 1 = (Ln.down na (j + 1)).length) := Aid.hid (by rw [SN.out, List.length_append]; rfl)
            have O5 : Hid (w3.ownsRow W1.heap.size 3 1 (.slice A5 (Ln.down na (j + 1)).length c5) (Ln.down na (j + 1)).length ((Ln.down na (j + 1)).map (Value.int .i64))) := Aid.hid (by rw [← e5.out, SN.out, List.map_append]; exact hown')
            clear hown' hgrow O
            rw [e5.out]
            go_wp2_with fail
            go_roundw
            case rel => exact ⟨j + 1, A5, c5, by omega, by first | (simp; done) | (simp; omega), rfl, O5, HB3⟩
            case measure => first | (simp [intOf]; done) | (simp [intOf]; omega)
        · obtain rfl : j = na + 1 := by omega
          have e1 : (na : Int) - ((na + 1 : Nat) : Int) = -1 := by omega
          rw [e1]
          clear e1 dl hj hjl
          have E10 : Hid (Tb.chain l na = Ln.down na (na + 1)) := Aid.hid (Ln.chain LL.out l10 hna)
          obtain ⟨ch, hch⟩ : ∃ ch, Ln.down na (na + 1) = ch := ⟨_, rfl⟩
          rw [hch] at O E10 DLN ⊢
          clear hch
          have lc : ch.length < 1000000000 := by rw [DLN.out]; omega
          have z1 : W1.heap.size ≤ wr.heap.size := HB1.out.size
          have OC := O
          have HB2 := HB1
          clear O HB1
          go_wp2_with fail
          generalize wr = W2 at *
          go_loopw [11, 13] (fun vl vi wr => ∃ (j : Nat) (A' : Option Addr) (c' : Nat), j ≤ na + 1 ∧ vi = .int .i64 j ∧ vl = .slice A' (Ln.fvs j).length c' ∧ Hid (wr.ownsRow W2.heap.size 44 8 (.slice A' (Ln.fvs j).length c') (Ln.fvs j).length (VC (Ln.fvs j))) ∧ Hid (Below W2.heap.size W2 wr)) (fun _ vi _ => na + 1 - (intOf vi).toNat)
          case atStart => exact ⟨0, none, 0, Nat.zero_le _, rfl, rfl, Aid.hid (World.ownsRow_nil _ _ _ _), Aid.hid (Below.refl _ _)⟩
          case round =>
            obtain ⟨j, B', b', hj, rfl, rfl, O, HB1⟩ := hrel
            have HBW := Aid.hid (HB2.out.trans (HB1.out.mono HB2.out.size))
            by_cases hjl : j ≤ na
            · have t0 : decide ((j : Int) ≤ (na : Int)) = true := decide_eq_true (by omega)
              obtain ⟨dx, hdx, hI⟩ := LL.out.at_ (i := j) (by omega)
              have hux := HUL.out.below HBW.out (Nat.le_refl _)
              have hvs : dx.vs = [Ln.fv j] := hI.vars
              have RV : Reads wr W1.heap.size 8 dx.vA 1 (VC [Ln.fv j]) := by
                have h := Rows.reads (Vd.len _) (hux.decls dx (List.mem_of_getElem? hdx)).vars
                rw [hvs] at h
                exact h
              have cp := (HBW.out.cell (p := ⟨pu, 0, none⟩) HPL).trans PC.out
              obtain ⟨b, off, rfl, _, hcu⟩ := hux.at_ (by omega)
              have cvs := hcu j dx hdx 6 _ rfl
              rw [hvs] at cvs
              have hjm : j < l.length := by omega
              have z3 : W2.heap.size ≤ wr.heap.size := HB1.out.size
              have SN : Hid (Ln.fvs (j + 1) = Ln.fvs j ++ [Ln.fv j]) := Aid.hid (Ln.fvs_succ j)
              have rl : (Ln.fvs j).length = j := Ln.fvs_len j
              have b1 : (Ln.fvs j).length + 1 ≤ maxLen := by rw [rl]; unfold maxLen; omega
              have b2 : ((Ln.fvs j).length + 1) * 80 ≤ 140737488355328 := by rw [rl]; omega
              clear hcu hux hdx hI hvs rl
              go_wp2_with (at_builtin; refine wpList_append_any _ rfl _ _ 28 rfl W2.heap.size 44 i2 (.agg #[.string ⟨#[]⟩, .int .i64 0, .int .i64 0, .int .i64 0, .string ⟨#[]⟩, .int .i64 0, .int .i64 0, .int .i64 0]) 8 80 Try.underlying28 vi vz0 vz1 vz2 rfl (by decide) _ _ _ rfl O.out W1.heap.size dx.vA 1 dx.vc _ rfl RV (Vd.one (l := [Ln.fv j])) b1 b2 z3 ?_)
              intro v' w3 hown' hgrow _
              obtain ⟨A5, c5, rfl⟩ := own_slice hown'
              have HB3 : Hid (Below W2.heap.size W2 w3) := Aid.hid (HB1.out.grown hgrow z3 (fun q hq => (O.out.lt q hq).1))
              have e5 : Hid ((Ln.fvs j).length + 1 = (Ln.fvs (j + 1)).length) := Aid.hid (by rw [SN.out, List.length_append]; rfl)
              have O5 : Hid (w3.ownsRow W2.heap.size 44 8 (.slice A5 (Ln.fvs (j + 1)).length c5) (Ln.fvs (j + 1)).length (VC (Ln.fvs (j + 1)))) := Aid.hid (by rw [← e5.out, SN.out, VC_append]; exact hown')
              clear hown' hgrow O
              rw [e5.out]
              go_wp2_with fail
              go_roundw
              case rel => exact ⟨j + 1, A5, c5, by omega, by first | rfl | go_num, rfl, O5, HB3⟩
              case measure => simp [intOf]; omega
            · obtain rfl : j = na + 1 := by omega
              have t0 : decide (((na + 1 : Nat) : Int) ≤ (na : Int)) = false := decide_eq_false (by omega)
              have E11 : Hid (Tb.fields l na = Ln.fvs (na + 1)) := Aid.hid (Ln.fields LL.out l10 hna)
              have VL : Hid ((Ln.fvs (na + 1)).length = na + 1) := Aid.hid (Ln.fvs_len _)
              obtain ⟨vs, hvs⟩ : ∃ vs, Ln.fvs (na + 1) = vs := ⟨_, rfl⟩
              rw [hvs] at O E11 VL ⊢
              clear hvs hj hjl
              have lv : vs.length < 1000000000 := by rw [VL.out]; omega
              have O10 : Hid (wr.ownsRow W1.heap.size 3 1 (.slice A' ch.length c') ch.length (ch.map (Value.int .i64))) := Aid.hid (own_keeps OC.out HB1.out)
              have O11 : Hid (wr.ownsRow W1.heap.size 44 8 (.slice B' vs.length b') vs.length (VC vs)) := Aid.hid (own_lowers O.out z1)
              clear O OC HB1 HB2 z1
              obtain ⟨want, hwant⟩ : ∃ x : Int, (if no ≤ na then (no : Int) else 0) = x := ⟨_, rfl⟩
              have ME : Hid (Tb.method l na ⟨#[109]⟩ = (want, 0, true)) := Aid.hid (by rw [Ln.method LL.out l10 hna, hwant])
              have MN : Hid (Tb.method l na ⟨#[110]⟩ = (0, 0, false)) := Aid.hid (Ln.noMethod LL.out hna)
              have key : (no ≤ na ∧ (no : Int) = want) ∨ (na < no ∧ (0 : Int) = want) := by
                by_cases h : no ≤ na
                · exact Or.inl ⟨h, by rw [← hwant, if_pos h]⟩
                · exact Or.inr ⟨by omega, by rw [← hwant, if_neg h]⟩
              clear hwant
              rcases key with ⟨g3, rfl⟩ | ⟨g3, rfl⟩
              · skip
                have cp := (HBW.out.cell (p := ⟨pu, 0, none⟩) HPL).trans PC.out
                go_wp2_with fail
                refine (method_is l A W1.heap.size c na ⟨#[109]⟩ (no : Int) 0 true _ ME.out (HUL.out.below HBW.out (Nat.le_refl _)) HBW.out.size).mono ?_; rintro e w4 ⟨rfl, hb4⟩
                have HB4 := Aid.hid (HBW.out.trans (hb4.mono HBW.out.size))
                have O10b := Aid.hid (own_keeps (own_keeps O10.out hb4) ((Below.refl w4.heap.size w4).alloc (Nat.le_refl _) (.cells #[.int .i64 (no : Int), .int .i64 0] 48)))
                have O11b := Aid.hid (own_keeps (own_keeps O11.out hb4) ((Below.refl w4.heap.size w4).alloc (Nat.le_refl _) (.cells #[.int .i64 (no : Int), .int .i64 0] 48)))
                have XA : Aid.Has (w4.alloc (.cells #[.int .i64 (no : Int), .int .i64 0] 48)) w4.heap.size [.int .i64 (no : Int), .int .i64 0] 48 := Aid.Has.new w4 [.int .i64 (no : Int), .int .i64 0] 48
                have HB5 : Below W1.heap.size W1 (w4.alloc (.cells #[.int .i64 (no : Int), .int .i64 0] 48)) := HB4.out.alloc HB4.out.size _
                have p0 : (w4.alloc (.cells #[.int .i64 (no : Int), .int .i64 0] 48)).cell? ⟨pu, 0, none⟩ = some (.slice A l.length c) := (HB5.cell (p := ⟨pu, 0, none⟩) HPL).trans PC.out
                clear hb4 cp
                go_wp2_with fail
                generalize w4.alloc (.cells #[.int .i64 (no : Int), .int .i64 0] 48) = w5 at XA HB5 p0 O10b O11b ⊢
                obtain ⟨qa, hqa⟩ : ∃ q, w4.heap.size = q := ⟨_, rfl⟩
                rw [hqa] at XA ⊢
                clear hqa HB4
                refine (method_is l A W1.heap.size c na ⟨#[110]⟩ 0 0 false _ MN.out (HUL.out.below HB5 (Nat.le_refl _)) HB5.size).mono ?_; rintro e w6 ⟨rfl, hb6⟩
                have HB6 := Aid.hid (HB5.trans (hb6.mono HB5.size))
                have O10c := Aid.hid (own_keeps (own_keeps O10b.out hb6) ((Below.refl w6.heap.size w6).alloc (Nat.le_refl _) (.cells #[.int .i64 0, .int .i64 0] 48)))
                have O11c := Aid.hid (own_keeps (own_keeps O11b.out hb6) ((Below.refl w6.heap.size w6).alloc (Nat.le_refl _) (.cells #[.int .i64 0, .int .i64 0] 48)))
                have XA7 : Aid.Has (w6.alloc (.cells #[.int .i64 0, .int .i64 0] 48)) qa [.int .i64 (no : Int), .int .i64 0] 48 := (XA.below hb6 XA.lt).alloc _
                have HB7 : Below W1.heap.size W1 (w6.alloc (.cells #[.int .i64 0, .int .i64 0] 48)) := HB6.out.alloc HB6.out.size _
                clear hb6 HB5 XA p0 O10b O11b
                go_wp2_with fail
                generalize w6.alloc (.cells #[.int .i64 0, .int .i64 0] 48) = W8 at XA7 HB7 O10c O11c ⊢
                have ha8 := XA7.lt
                have XA0 := Aid.hid (XA7.cell 0 _ rfl); have XA1 := Aid.hid (XA7.cell 1 _ rfl)
                have H8 := Aid.hid HB7
                have PC8 := Aid.hid ((HB7.cell (p := ⟨pu, 0, none⟩) HPL).trans PC.out)
                have hp8 : pu < W8.heap.size := Nat.lt_of_lt_of_le HPL HB7.size
                have HU8 := Aid.hid (HUL.out.below HB7 (Nat.le_refl _))
                have hB8 := HB7.size
                have WH8 : Hid (Below w.heap.size w W8) := Aid.hid (HB.out.trans (HB7.mono HB.out.size))
                clear XA7 HB6 HB7 O10 O11 HBW
                go_loopw [19] (fun vi wr => ∃ j : Nat, vi = .int .i64 j ∧ j ≤ n ∧ Hid (Below W8.heap.size W8 wr)) (fun vi _ => n - (intOf vi).toNat)
                case atStart => exact ⟨0, rfl, Nat.zero_le _, Aid.hid (Below.refl _ _)⟩
                case round =>
                  obtain ⟨j, rfl, hj, HR⟩ := hrel
                  by_cases hjl : j < n
                  · have hjm : j < l.length := by rw [HN.out]; exact hjl
                    obtain ⟨da, hda, hIa⟩ := LL.out.at_ hna
                    obtain ⟨dj, hdj, hIj⟩ := LL.out.at_ hjm
                    have hux := HU8.out.below HR.out hB8
                    have cp := (HR.out.cell (p := ⟨pu, 0, none⟩) hp8).trans PC8.out
                    obtain ⟨b, off, rfl, hbb, hcu⟩ := hux.at_ (by omega)
                    have ca : W8.cell? ⟨b, off + na * 11 + 1, none⟩ = some (.string da.name) := by
                      obtain ⟨b2, off2, hbe, _, hc2⟩ := HU8.out.at_ (by omega)
                      obtain ⟨rfl, rfl⟩ : b = b2 ∧ off = off2 := by simpa using hbe
                      exact hc2 na da hda 1 _ rfl
                    have cj : W8.cell? ⟨b, off + j * 11 + 1, none⟩ = some (.string dj.name) := by
                      obtain ⟨b2, off2, hbe, _, hc2⟩ := HU8.out.at_ (by omega)
                      obtain ⟨rfl, rfl⟩ : b = b2 ∧ off = off2 := by simpa using hbe
                      exact hc2 j dj hdj 1 _ rfl
                    have hb8 : b < W8.heap.size := by omega
                    have CA := Aid.hid ca; have CJ := Aid.hid cj
                    obtain ⟨r, hr⟩ : ∃ r, decide (j ≤ na) = r := ⟨_, rfl⟩
                    have IS : Hid (Tb.is l da.name dj.name = r) := Aid.hid (by rw [hIa.name, hIj.name, Ln.is LL.out l10 hna hjm, show decide ((j : Int) ≤ (na : Int)) = decide (j ≤ na) by simp]; exact hr)
                    have HRR := hr
                    clear hda hdj hIa hIj hcu hux ca cj hr cp
                    have hb : Below W8.heap.size W8 wr.drew := HR.out.drew
                    go_wp2_with fail
                    refine Ord.wp_region_walk (fun w' => Below W8.heap.size W8 w') 17 [(true, 0), (true, 1), (true, 2), (true, 3), (true, 4), (true, 5), (true, 6), (true, 7), (true, 8), (true, 9), (true, 10), (true, 11), (true, 12), (true, 14), (true, 15), (true, 16), (false, 13)] (by kernel_rfl) (by kernel_rfl) (fun _ _ d _ _ h => by cases d <;> exact h) (hb) ?_
                    apply Ord.walk_light
                    next => (simp only [List.getElem?_toArray, List.getElem?_cons_zero]; rfl)
                    next => rfl
                    next => (intro w' hSw; have k0 := (hSw.cell (p := ⟨pu, 0, none⟩) hp8).trans PC8.out; have k1 := (hSw.cell (p := ⟨b, off + na * 11 + 1, none⟩) hb8).trans CA.out; have k2 := (hSw.cell (p := ⟨b, off + j * 11 + 1, none⟩) hb8).trans CJ.out; clear hSw; go_simp; first | done | with_reducible rfl)
                    simp only [Act.put, List.setIfInBounds_toArray, List.set_cons_zero, List.set_cons_succ]
                    apply Ord.walk_light
                    next => (simp only [List.getElem?_toArray, List.getElem?_cons_succ, List.getElem?_cons_zero]; rfl)
                    next => rfl
                    next => (intro w' hSw; have k0 := (hSw.cell (p := ⟨pu, 0, none⟩) hp8).trans PC8.out; have k1 := (hSw.cell (p := ⟨b, off + na * 11 + 1, none⟩) hb8).trans CA.out; have k2 := (hSw.cell (p := ⟨b, off + j * 11 + 1, none⟩) hb8).trans CJ.out; clear hSw; go_simp; first | done | with_reducible rfl)
                    simp only [Act.put, List.setIfInBounds_toArray, List.set_cons_zero, List.set_cons_succ]
                    apply Ord.walk_light
                    next => (simp only [List.getElem?_toArray, List.getElem?_cons_succ, List.getElem?_cons_zero]; rfl)
                    next => rfl
                    next => (intro w' hSw; have k0 := (hSw.cell (p := ⟨pu, 0, none⟩) hp8).trans PC8.out; have k1 := (hSw.cell (p := ⟨b, off + na * 11 + 1, none⟩) hb8).trans CA.out; have k2 := (hSw.cell (p := ⟨b, off + j * 11 + 1, none⟩) hb8).trans CJ.out; clear hSw; go_simp; first | done | with_reducible rfl)
                    simp only [Act.put, List.setIfInBounds_toArray, List.set_cons_zero, List.set_cons_succ]
                    apply Ord.walk_light
                    next => (simp only [List.getElem?_toArray, List.getElem?_cons_succ, List.getElem?_cons_zero]; rfl)
                    next => rfl
                    next => (intro w' hSw; have k0 := (hSw.cell (p := ⟨pu, 0, none⟩) hp8).trans PC8.out; have k1 := (hSw.cell (p := ⟨b, off + na * 11 + 1, none⟩) hb8).trans CA.out; have k2 := (hSw.cell (p := ⟨b, off + j * 11 + 1, none⟩) hb8).trans CJ.out; clear hSw; go_simp; first | done | with_reducible rfl)
                    simp only [Act.put, List.setIfInBounds_toArray, List.set_cons_zero, List.set_cons_succ]
                    apply Ord.walk_light
                    next => (simp only [List.getElem?_toArray, List.getElem?_cons_succ, List.getElem?_cons_zero]; rfl)
                    next => rfl
                    next => (intro w' hSw; have k0 := (hSw.cell (p := ⟨pu, 0, none⟩) hp8).trans PC8.out; have k1 := (hSw.cell (p := ⟨b, off + na * 11 + 1, none⟩) hb8).trans CA.out; have k2 := (hSw.cell (p := ⟨b, off + j * 11 + 1, none⟩) hb8).trans CJ.out; clear hSw; go_simp; first | done | with_reducible rfl)
                    simp only [Act.put, List.setIfInBounds_toArray, List.set_cons_zero, List.set_cons_succ]
                    apply Ord.walk_light
                    next => (simp only [List.getElem?_toArray, List.getElem?_cons_succ, List.getElem?_cons_zero]; rfl)
                    next => rfl
                    next => (intro w' hSw; have k0 := (hSw.cell (p := ⟨pu, 0, none⟩) hp8).trans PC8.out; have k1 := (hSw.cell (p := ⟨b, off + na * 11 + 1, none⟩) hb8).trans CA.out; have k2 := (hSw.cell (p := ⟨b, off + j * 11 + 1, none⟩) hb8).trans CJ.out; clear hSw; go_simp; first | done | with_reducible rfl)
                    simp only [Act.put, List.setIfInBounds_toArray, List.set_cons_zero, List.set_cons_succ]
                    apply Ord.walk_light
                    next => (simp only [List.getElem?_toArray, List.getElem?_cons_succ, List.getElem?_cons_zero]; rfl)
                    next => rfl
                    next => (intro w' hSw; have k0 := (hSw.cell (p := ⟨pu, 0, none⟩) hp8).trans PC8.out; have k1 := (hSw.cell (p := ⟨b, off + na * 11 + 1, none⟩) hb8).trans CA.out; have k2 := (hSw.cell (p := ⟨b, off + j * 11 + 1, none⟩) hb8).trans CJ.out; clear hSw; go_simp; first | done | with_reducible rfl)
                    simp only [Act.put, List.setIfInBounds_toArray, List.set_cons_zero, List.set_cons_succ]
                    apply Ord.walk_light
                    next => (simp only [List.getElem?_toArray, List.getElem?_cons_succ, List.getElem?_cons_zero]; rfl)
                    next => rfl
                    next => (intro w' hSw; have k0 := (hSw.cell (p := ⟨pu, 0, none⟩) hp8).trans PC8.out; have k1 := (hSw.cell (p := ⟨b, off + na * 11 + 1, none⟩) hb8).trans CA.out; have k2 := (hSw.cell (p := ⟨b, off + j * 11 + 1, none⟩) hb8).trans CJ.out; clear hSw; go_simp; first | done | with_reducible rfl)
                    simp only [Act.put, List.setIfInBounds_toArray, List.set_cons_zero, List.set_cons_succ]
                    apply Ord.walk_light
                    next => (simp only [List.getElem?_toArray, List.getElem?_cons_succ, List.getElem?_cons_zero]; rfl)
                    next => rfl
                    next => (intro w' hSw; have k0 := (hSw.cell (p := ⟨pu, 0, none⟩) hp8).trans PC8.out; have k1 := (hSw.cell (p := ⟨b, off + na * 11 + 1, none⟩) hb8).trans CA.out; have k2 := (hSw.cell (p := ⟨b, off + j * 11 + 1, none⟩) hb8).trans CJ.out; clear hSw; go_simp; first | done | with_reducible rfl)
                    simp only [Act.put, List.setIfInBounds_toArray, List.set_cons_zero, List.set_cons_succ]
                    apply Ord.walk_light
                    next => (simp only [List.getElem?_toArray, List.getElem?_cons_succ, List.getElem?_cons_zero]; rfl)
                    next => rfl
                    next => (intro w' hSw; have k0 := (hSw.cell (p := ⟨pu, 0, none⟩) hp8).trans PC8.out; have k1 := (hSw.cell (p := ⟨b, off + na * 11 + 1, none⟩) hb8).trans CA.out; have k2 := (hSw.cell (p := ⟨b, off + j * 11 + 1, none⟩) hb8).trans CJ.out; clear hSw; go_simp; first | done | with_reducible rfl)
                    simp only [Act.put, List.setIfInBounds_toArray, List.set_cons_zero, List.set_cons_succ]
                    apply Ord.walk_light
                    next => (simp only [List.getElem?_toArray, List.getElem?_cons_succ, List.getElem?_cons_zero]; rfl)
                    next => rfl
                    next => (intro w' hSw; have k0 := (hSw.cell (p := ⟨pu, 0, none⟩) hp8).trans PC8.out; have k1 := (hSw.cell (p := ⟨b, off + na * 11 + 1, none⟩) hb8).trans CA.out; have k2 := (hSw.cell (p := ⟨b, off + j * 11 + 1, none⟩) hb8).trans CJ.out; clear hSw; go_simp; first | done | with_reducible rfl)
                    simp only [Act.put, List.setIfInBounds_toArray, List.set_cons_zero, List.set_cons_succ]
                    apply Ord.walk_light
                    next => (simp only [List.getElem?_toArray, List.getElem?_cons_succ, List.getElem?_cons_zero]; rfl)
                    next => rfl
                    next => (intro w' hSw; have k0 := (hSw.cell (p := ⟨pu, 0, none⟩) hp8).trans PC8.out; have k1 := (hSw.cell (p := ⟨b, off + na * 11 + 1, none⟩) hb8).trans CA.out; have k2 := (hSw.cell (p := ⟨b, off + j * 11 + 1, none⟩) hb8).trans CJ.out; clear hSw; go_simp; first | done | with_reducible rfl)
                    simp only [Act.put, List.setIfInBounds_toArray, List.set_cons_zero, List.set_cons_succ]
                    apply Ord.walk_light
                    next => (simp only [List.getElem?_toArray, List.getElem?_cons_succ, List.getElem?_cons_zero]; rfl)
                    next => rfl
                    next => (intro w' hSw; have k0 := (hSw.cell (p := ⟨pu, 0, none⟩) hp8).trans PC8.out; have k1 := (hSw.cell (p := ⟨b, off + na * 11 + 1, none⟩) hb8).trans CA.out; have k2 := (hSw.cell (p := ⟨b, off + j * 11 + 1, none⟩) hb8).trans CJ.out; clear hSw; go_simp; first | done | with_reducible rfl)
                    simp only [Act.put, List.setIfInBounds_toArray, List.set_cons_zero, List.set_cons_succ]
                    apply Ord.walk_light
                    next => (simp only [List.getElem?_toArray, List.getElem?_cons_succ, List.getElem?_cons_zero]; rfl)
                    next => rfl
                    next => (intro w' hSw; have k0 := (hSw.cell (p := ⟨pu, 0, none⟩) hp8).trans PC8.out; have k1 := (hSw.cell (p := ⟨b, off + na * 11 + 1, none⟩) hb8).trans CA.out; have k2 := (hSw.cell (p := ⟨b, off + j * 11 + 1, none⟩) hb8).trans CJ.out; clear hSw; go_simp; first | done | with_reducible rfl)
                    simp only [Act.put, List.setIfInBounds_toArray, List.set_cons_zero, List.set_cons_succ]
                    apply Ord.walk_light
                    next => (simp only [List.getElem?_toArray, List.getElem?_cons_succ, List.getElem?_cons_zero]; rfl)
                    next => rfl
                    next => (intro w' hSw; have k0 := (hSw.cell (p := ⟨pu, 0, none⟩) hp8).trans PC8.out; have k1 := (hSw.cell (p := ⟨b, off + na * 11 + 1, none⟩) hb8).trans CA.out; have k2 := (hSw.cell (p := ⟨b, off + j * 11 + 1, none⟩) hb8).trans CJ.out; clear hSw; go_simp; first | done | with_reducible rfl)
                    simp only [Act.put, List.setIfInBounds_toArray, List.set_cons_zero, List.set_cons_succ]
                    apply Ord.walk_light
                    next => (simp only [List.getElem?_toArray, List.getElem?_cons_succ, List.getElem?_cons_zero]; rfl)
                    next => rfl
                    next => (intro w' hSw; have k0 := (hSw.cell (p := ⟨pu, 0, none⟩) hp8).trans PC8.out; have k1 := (hSw.cell (p := ⟨b, off + na * 11 + 1, none⟩) hb8).trans CA.out; have k2 := (hSw.cell (p := ⟨b, off + j * 11 + 1, none⟩) hb8).trans CJ.out; clear hSw; go_simp; first | done | with_reducible rfl)
                    simp only [Act.put, List.setIfInBounds_toArray, List.set_cons_zero, List.set_cons_succ]
                    apply Ord.walk_heavy
                    next => (simp only [List.getElem?_toArray, List.getElem?_cons_succ, List.getElem?_cons_zero]; rfl)
                    next => rfl
                    intro K hK
                    go_wp2_with fail
                    refine (is_is l _ W1.heap.size c da.name dj.name r _ IS.out (HU8.out.below hb hB8) (Nat.le_trans hB8 hb.size)).mono ?_; rintro e w' ⟨rfl, hb'⟩; dsimp only
                    refine hK.out _ _ (hb.trans (hb'.mono hb.size)) (fun hHeld => ?_)
                    clear hb hb'
                    have hb := hHeld
                    clear hK K
                    try simp only [Act.put, List.setIfInBounds_toArray, List.set_cons_zero, List.set_cons_succ]
                    refine Ord.walk_tail ?_; simp only [List.drop_succ_cons, List.drop_zero]
                    have FB := Aid.hid hb
                    clear hb
                    go_wp2_with fail
                    go_roundw
                    case rel => exact ⟨j + 1, by go_num, by omega, FB⟩
                    case measure => simp [intOf]; omega
                  · have hb := HR.out
                    have k0 := (hb.cell (p := ⟨pu, 0, none⟩) hp8).trans PC8.out
                    go_wp2_with fail
                    refine (chain_is l A W1.heap.size c na ch _ E10.out (HU8.out.below hb hB8) (Nat.le_trans hB8 hb.size)).mono ?_; rintro e w9 ⟨A9, c9, rfl, o9, hb9⟩
                    have O10d := Aid.hid (own_keeps (own_keeps O10c.out hb) hb9)
                    have O11d := Aid.hid (own_keeps (own_keeps O11c.out hb) hb9)
                    have O9 := Aid.hid o9
                    replace hb := hb.trans (hb9.mono hb.size)
                    clear hb9 k0 o9 O10c O11c
                    have k0 := (hb.cell (p := ⟨pu, 0, none⟩) hp8).trans PC8.out
                    go_wp2_with fail
                    refine (sameInts_b A9 A' c9 c' _ _ ch _ (IntsAt.of_own O9.out) (IntsAt.of_own O10d.out) lc).mono ?_; rintro e w10 ⟨rfl, hb10⟩
                    have O11e := Aid.hid (own_keeps O11d.out hb10)
                    replace hb := hb.trans (hb10.mono hb.size)
                    clear hb10 k0 O9 O10d O11d
                    have k0 := (hb.cell (p := ⟨pu, 0, none⟩) hp8).trans PC8.out
                    go_wp2_with fail
                    refine (fields_is l A W1.heap.size c na vs _ E11.out (HU8.out.below hb hB8) (Nat.le_trans hB8 hb.size) (by omega) HMM.out).mono ?_; rintro e w11 ⟨A11, c11, rfl, o11, hb11⟩
                    have O12 := Aid.hid o11
                    have O11f := Aid.hid (own_keeps O11e.out hb11)
                    replace hb := hb.trans (hb11.mono hb.size)
                    clear hb11 k0 o11 O11e
                    go_wp2_with fail
                    refine (sameVars_b A11 B' c11 b' _ _ vs _ (rows_own O12.out) (rows_own O11f.out) lv).mono ?_; rintro e w12 ⟨rfl, hb12⟩
                    replace hb := hb.trans (hb12.mono hb.size)
                    clear hb12 O12 O11f
                    have k1 := (hb.cell (p := ⟨qa, 0, none⟩) ha8).trans XA0.out
                    have k2 := (hb.cell (p := ⟨qa, 1, none⟩) ha8).trans XA1.out
                    go_wp2_with fail
                    refine (awake_any _).mono ?_; rintro e w13 ⟨rfl, hb13⟩
                    have FB := Aid.hid (WH8.out.trans ((hb.trans (hb13.mono hb.size)).mono WH8.out.size))
                    clear hb hb13 k1 k2
                    go_wp2_with fail
                    go_ret
                    exact ⟨rfl, FB.out⟩
              · skip
                have cp := (HBW.out.cell (p := ⟨pu, 0, none⟩) HPL).trans PC.out
                go_wp2_with fail
                refine (method_is l A W1.heap.size c na ⟨#[109]⟩ (0 : Int) 0 true _ ME.out (HUL.out.below HBW.out (Nat.le_refl _)) HBW.out.size).mono ?_; rintro e w4 ⟨rfl, hb4⟩
                have HB4 := Aid.hid (HBW.out.trans (hb4.mono HBW.out.size))
                have O10b := Aid.hid (own_keeps (own_keeps O10.out hb4) ((Below.refl w4.heap.size w4).alloc (Nat.le_refl _) (.cells #[.int .i64 (0 : Int), .int .i64 0] 48)))
                have O11b := Aid.hid (own_keeps (own_keeps O11.out hb4) ((Below.refl w4.heap.size w4).alloc (Nat.le_refl _) (.cells #[.int .i64 (0 : Int), .int .i64 0] 48)))
                have XA : Aid.Has (w4.alloc (.cells #[.int .i64 (0 : Int), .int .i64 0] 48)) w4.heap.size [.int .i64 (0 : Int), .int .i64 0] 48 := Aid.Has.new w4 [.int .i64 (0 : Int), .int .i64 0] 48
                have HB5 : Below W1.heap.size W1 (w4.alloc (.cells #[.int .i64 (0 : Int), .int .i64 0] 48)) := HB4.out.alloc HB4.out.size _
                have p0 : (w4.alloc (.cells #[.int .i64 (0 : Int), .int .i64 0] 48)).cell? ⟨pu, 0, none⟩ = some (.slice A l.length c) := (HB5.cell (p := ⟨pu, 0, none⟩) HPL).trans PC.out
                clear hb4 cp
                go_wp2_with fail
                generalize w4.alloc (.cells #[.int .i64 (0 : Int), .int .i64 0] 48) = w5 at XA HB5 p0 O10b O11b ⊢
                obtain ⟨qa, hqa⟩ : ∃ q, w4.heap.size = q := ⟨_, rfl⟩
                rw [hqa] at XA ⊢
                clear hqa HB4
                refine (method_is l A W1.heap.size c na ⟨#[110]⟩ 0 0 false _ MN.out (HUL.out.below HB5 (Nat.le_refl _)) HB5.size).mono ?_; rintro e w6 ⟨rfl, hb6⟩
                have HB6 := Aid.hid (HB5.trans (hb6.mono HB5.size))
                have O10c := Aid.hid (own_keeps (own_keeps O10b.out hb6) ((Below.refl w6.heap.size w6).alloc (Nat.le_refl _) (.cells #[.int .i64 0, .int .i64 0] 48)))
                have O11c := Aid.hid (own_keeps (own_keeps O11b.out hb6) ((Below.refl w6.heap.size w6).alloc (Nat.le_refl _) (.cells #[.int .i64 0, .int .i64 0] 48)))
                have XA7 : Aid.Has (w6.alloc (.cells #[.int .i64 0, .int .i64 0] 48)) qa [.int .i64 (0 : Int), .int .i64 0] 48 := (XA.below hb6 XA.lt).alloc _
                have HB7 : Below W1.heap.size W1 (w6.alloc (.cells #[.int .i64 0, .int .i64 0] 48)) := HB6.out.alloc HB6.out.size _
                clear hb6 HB5 XA p0 O10b O11b
                go_wp2_with fail
                generalize w6.alloc (.cells #[.int .i64 0, .int .i64 0] 48) = W8 at XA7 HB7 O10c O11c ⊢
                have ha8 := XA7.lt
                have XA0 := Aid.hid (XA7.cell 0 _ rfl); have XA1 := Aid.hid (XA7.cell 1 _ rfl)
                have H8 := Aid.hid HB7
                have PC8 := Aid.hid ((HB7.cell (p := ⟨pu, 0, none⟩) HPL).trans PC.out)
                have hp8 : pu < W8.heap.size := Nat.lt_of_lt_of_le HPL HB7.size
                have HU8 := Aid.hid (HUL.out.below HB7 (Nat.le_refl _))
                have hB8 := HB7.size
                have WH8 : Hid (Below w.heap.size w W8) := Aid.hid (HB.out.trans (HB7.mono HB.out.size))
                clear XA7 HB6 HB7 O10 O11 HBW
                go_loopw [19] (fun vi wr => ∃ j : Nat, vi = .int .i64 j ∧ j ≤ n ∧ Hid (Below W8.heap.size W8 wr)) (fun vi _ => n - (intOf vi).toNat)
                case atStart => exact ⟨0, rfl, Nat.zero_le _, Aid.hid (Below.refl _ _)⟩
                case round =>
                  obtain ⟨j, rfl, hj, HR⟩ := hrel
                  by_cases hjl : j < n
                  · have hjm : j < l.length := by rw [HN.out]; exact hjl
                    obtain ⟨da, hda, hIa⟩ := LL.out.at_ hna
                    obtain ⟨dj, hdj, hIj⟩ := LL.out.at_ hjm
                    have hux := HU8.out.below HR.out hB8
                    have cp := (HR.out.cell (p := ⟨pu, 0, none⟩) hp8).trans PC8.out
                    obtain ⟨b, off, rfl, hbb, hcu⟩ := hux.at_ (by omega)
                    have ca : W8.cell? ⟨b, off + na * 11 + 1, none⟩ = some (.string da.name) := by
                      obtain ⟨b2, off2, hbe, _, hc2⟩ := HU8.out.at_ (by omega)
                      obtain ⟨rfl, rfl⟩ : b = b2 ∧ off = off2 := by simpa using hbe
                      exact hc2 na da hda 1 _ rfl
                    have cj : W8.cell? ⟨b, off + j * 11 + 1, none⟩ = some (.string dj.name) := by
                      obtain ⟨b2, off2, hbe, _, hc2⟩ := HU8.out.at_ (by omega)
                      obtain ⟨rfl, rfl⟩ : b = b2 ∧ off = off2 := by simpa using hbe
                      exact hc2 j dj hdj 1 _ rfl
                    have hb8 : b < W8.heap.size := by omega
                    have CA := Aid.hid ca; have CJ := Aid.hid cj
                    obtain ⟨r, hr⟩ : ∃ r, decide (j ≤ na) = r := ⟨_, rfl⟩
                    have IS : Hid (Tb.is l da.name dj.name = r) := Aid.hid (by rw [hIa.name, hIj.name, Ln.is LL.out l10 hna hjm, show decide ((j : Int) ≤ (na : Int)) = decide (j ≤ na) by simp]; exact hr)
                    have HRR := hr
                    clear hda hdj hIa hIj hcu hux ca cj hr cp
                    have hb : Below W8.heap.size W8 wr.drew := HR.out.drew
                    go_wp2_with fail
                    refine Ord.wp_region_walk (fun w' => Below W8.heap.size W8 w') 17 [(true, 0), (true, 1), (true, 2), (true, 3), (true, 4), (true, 5), (true, 6), (true, 7), (true, 8), (true, 9), (true, 10), (true, 11), (true, 12), (true, 14), (true, 15), (true, 16), (false, 13)] (by kernel_rfl) (by kernel_rfl) (fun _ _ d _ _ h => by cases d <;> exact h) (hb) ?_
                    apply Ord.walk_light
                    next => (simp only [List.getElem?_toArray, List.getElem?_cons_zero]; rfl)
                    next => rfl
                    next => (intro w' hSw; have k0 := (hSw.cell (p := ⟨pu, 0, none⟩) hp8).trans PC8.out; have k1 := (hSw.cell (p := ⟨b, off + na * 11 + 1, none⟩) hb8).trans CA.out; have k2 := (hSw.cell (p := ⟨b, off + j * 11 + 1, none⟩) hb8).trans CJ.out; clear hSw; go_simp; first | done | with_reducible rfl)
                    simp only [Act.put, List.setIfInBounds_toArray, List.set_cons_zero, List.set_cons_succ]
                    apply Ord.walk_light
                    next => (simp only [List.getElem?_toArray, List.getElem?_cons_succ, List.getElem?_cons_zero]; rfl)
                    next => rfl
                    next => (intro w' hSw; have k0 := (hSw.cell (p := ⟨pu, 0, none⟩) hp8).trans PC8.out; have k1 := (hSw.cell (p := ⟨b, off + na * 11 + 1, none⟩) hb8).trans CA.out; have k2 := (hSw.cell (p := ⟨b, off + j * 11 + 1, none⟩) hb8).trans CJ.out; clear hSw; go_simp; first | done | with_reducible rfl)
                    simp only [Act.put, List.setIfInBounds_toArray, List.set_cons_zero, List.set_cons_succ]
                    apply Ord.walk_light
                    next => (simp only [List.getElem?_toArray, List.getElem?_cons_succ, List.getElem?_cons_zero]; rfl)
                    next => rfl
                    next => (intro w' hSw; have k0 := (hSw.cell (p := ⟨pu, 0, none⟩) hp8).trans PC8.out; have k1 := (hSw.cell (p := ⟨b, off + na * 11 + 1, none⟩) hb8).trans CA.out; have k2 := (hSw.cell (p := ⟨b, off + j * 11 + 1, none⟩) hb8).trans CJ.out; clear hSw; go_simp; first | done | with_reducible rfl)
                    simp only [Act.put, List.setIfInBounds_toArray, List.set_cons_zero, List.set_cons_succ]
                    apply Ord.walk_light
                    next => (simp only [List.getElem?_toArray, List.getElem?_cons_succ, List.getElem?_cons_zero]; rfl)
                    next => rfl
                    next => (intro w' hSw; have k0 := (hSw.cell (p := ⟨pu, 0, none⟩) hp8).trans PC8.out; have k1 := (hSw.cell (p := ⟨b, off + na * 11 + 1, none⟩) hb8).trans CA.out; have k2 := (hSw.cell (p := ⟨b, off + j * 11 + 1, none⟩) hb8).trans CJ.out; clear hSw; go_simp; first | done | with_reducible rfl)
                    simp only [Act.put, List.setIfInBounds_toArray, List.set_cons_zero, List.set_cons_succ]
                    apply Ord.walk_light
                    next => (simp only [List.getElem?_toArray, List.getElem?_cons_succ, List.getElem?_cons_zero]; rfl)
                    next => rfl
                    next => (intro w' hSw; have k0 := (hSw.cell (p := ⟨pu, 0, none⟩) hp8).trans PC8.out; have k1 := (hSw.cell (p := ⟨b, off + na * 11 + 1, none⟩) hb8).trans CA.out; have k2 := (hSw.cell (p := ⟨b, off + j * 11 + 1, none⟩) hb8).trans CJ.out; clear hSw; go_simp; first | done | with_reducible rfl)
                    simp only [Act.put, List.setIfInBounds_toArray, List.set_cons_zero, List.set_cons_succ]
                    apply Ord.walk_light
                    next => (simp only [List.getElem?_toArray, List.getElem?_cons_succ, List.getElem?_cons_zero]; rfl)
                    next => rfl
                    next => (intro w' hSw; have k0 := (hSw.cell (p := ⟨pu, 0, none⟩) hp8).trans PC8.out; have k1 := (hSw.cell (p := ⟨b, off + na * 11 + 1, none⟩) hb8).trans CA.out; have k2 := (hSw.cell (p := ⟨b, off + j * 11 + 1, none⟩) hb8).trans CJ.out; clear hSw; go_simp; first | done | with_reducible rfl)
                    simp only [Act.put, List.setIfInBounds_toArray, List.set_cons_zero, List.set_cons_succ]
                    apply Ord.walk_light
                    next => (simp only [List.getElem?_toArray, List.getElem?_cons_succ, List.getElem?_cons_zero]; rfl)
                    next => rfl
                    next => (intro w' hSw; have k0 := (hSw.cell (p := ⟨pu, 0, none⟩) hp8).trans PC8.out; have k1 := (hSw.cell (p := ⟨b, off + na * 11 + 1, none⟩) hb8).trans CA.out; have k2 := (hSw.cell (p := ⟨b, off + j * 11 + 1, none⟩) hb8).trans CJ.out; clear hSw; go_simp; first | done | with_reducible rfl)
                    simp only [Act.put, List.setIfInBounds_toArray, List.set_cons_zero, List.set_cons_succ]
                    apply Ord.walk_light
                    next => (simp only [List.getElem?_toArray, List.getElem?_cons_succ, List.getElem?_cons_zero]; rfl)
                    next => rfl
                    next => (intro w' hSw; have k0 := (hSw.cell (p := ⟨pu, 0, none⟩) hp8).trans PC8.out; have k1 := (hSw.cell (p := ⟨b, off + na * 11 + 1, none⟩) hb8).trans CA.out; have k2 := (hSw.cell (p := ⟨b, off + j * 11 + 1, none⟩) hb8).trans CJ.out; clear hSw; go_simp; first | done | with_reducible rfl)
                    simp only [Act.put, List.setIfInBounds_toArray, List.set_cons_zero, List.set_cons_succ]
                    apply Ord.walk_light
                    next => (simp only [List.getElem?_toArray, List.getElem?_cons_succ, List.getElem?_cons_zero]; rfl)
                    next => rfl
                    next => (intro w' hSw; have k0 := (hSw.cell (p := ⟨pu, 0, none⟩) hp8).trans PC8.out; have k1 := (hSw.cell (p := ⟨b, off + na * 11 + 1, none⟩) hb8).trans CA.out; have k2 := (hSw.cell (p := ⟨b, off + j * 11 + 1, none⟩) hb8).trans CJ.out; clear hSw; go_simp; first | done | with_reducible rfl)
                    simp only [Act.put, List.setIfInBounds_toArray, List.set_cons_zero, List.set_cons_succ]
                    apply Ord.walk_light
                    next => (simp only [List.getElem?_toArray, List.getElem?_cons_succ, List.getElem?_cons_zero]; rfl)
                    next => rfl
                    next => (intro w' hSw; have k0 := (hSw.cell (p := ⟨pu, 0, none⟩) hp8).trans PC8.out; have k1 := (hSw.cell (p := ⟨b, off + na * 11 + 1, none⟩) hb8).trans CA.out; have k2 := (hSw.cell (p := ⟨b, off + j * 11 + 1, none⟩) hb8).trans CJ.out; clear hSw; go_simp; first | done | with_reducible rfl)
                    simp only [Act.put, List.setIfInBounds_toArray, List.set_cons_zero, List.set_cons_succ]
                    apply Ord.walk_light
                    next => (simp only [List.getElem?_toArray, List.getElem?_cons_succ, List.getElem?_cons_zero]; rfl)
                    next => rfl
                    next => (intro w' hSw; have k0 := (hSw.cell (p := ⟨pu, 0, none⟩) hp8).trans PC8.out; have k1 := (hSw.cell (p := ⟨b, off + na * 11 + 1, none⟩) hb8).trans CA.out; have k2 := (hSw.cell (p := ⟨b, off + j * 11 + 1, none⟩) hb8).trans CJ.out; clear hSw; go_simp; first | done | with_reducible rfl)
                    simp only [Act.put, List.setIfInBounds_toArray, List.set_cons_zero, List.set_cons_succ]
                    apply Ord.walk_light
                    next => (simp only [List.getElem?_toArray, List.getElem?_cons_succ, List.getElem?_cons_zero]; rfl)
                    next => rfl
                    next => (intro w' hSw; have k0 := (hSw.cell (p := ⟨pu, 0, none⟩) hp8).trans PC8.out; have k1 := (hSw.cell (p := ⟨b, off + na * 11 + 1, none⟩) hb8).trans CA.out; have k2 := (hSw.cell (p := ⟨b, off + j * 11 + 1, none⟩) hb8).trans CJ.out; clear hSw; go_simp; first | done | with_reducible rfl)
                    simp only [Act.put, List.setIfInBounds_toArray, List.set_cons_zero, List.set_cons_succ]
                    apply Ord.walk_light
                    next => (simp only [List.getElem?_toArray, List.getElem?_cons_succ, List.getElem?_cons_zero]; rfl)
                    next => rfl
                    next => (intro w' hSw; have k0 := (hSw.cell (p := ⟨pu, 0, none⟩) hp8).trans PC8.out; have k1 := (hSw.cell (p := ⟨b, off + na * 11 + 1, none⟩) hb8).trans CA.out; have k2 := (hSw.cell (p := ⟨b, off + j * 11 + 1, none⟩) hb8).trans CJ.out; clear hSw; go_simp; first | done | with_reducible rfl)
                    simp only [Act.put, List.setIfInBounds_toArray, List.set_cons_zero, List.set_cons_succ]
                    apply Ord.walk_light
                    next => (simp only [List.getElem?_toArray, List.getElem?_cons_succ, List.getElem?_cons_zero]; rfl)
                    next => rfl
                    next => (intro w' hSw; have k0 := (hSw.cell (p := ⟨pu, 0, none⟩) hp8).trans PC8.out; have k1 := (hSw.cell (p := ⟨b, off + na * 11 + 1, none⟩) hb8).trans CA.out; have k2 := (hSw.cell (p := ⟨b, off + j * 11 + 1, none⟩) hb8).trans CJ.out; clear hSw; go_simp; first | done | with_reducible rfl)
                    simp only [Act.put, List.setIfInBounds_toArray, List.set_cons_zero, List.set_cons_succ]
                    apply Ord.walk_light
                    next => (simp only [List.getElem?_toArray, List.getElem?_cons_succ, List.getElem?_cons_zero]; rfl)
                    next => rfl
                    next => (intro w' hSw; have k0 := (hSw.cell (p := ⟨pu, 0, none⟩) hp8).trans PC8.out; have k1 := (hSw.cell (p := ⟨b, off + na * 11 + 1, none⟩) hb8).trans CA.out; have k2 := (hSw.cell (p := ⟨b, off + j * 11 + 1, none⟩) hb8).trans CJ.out; clear hSw; go_simp; first | done | with_reducible rfl)
                    simp only [Act.put, List.setIfInBounds_toArray, List.set_cons_zero, List.set_cons_succ]
                    apply Ord.walk_light
                    next => (simp only [List.getElem?_toArray, List.getElem?_cons_succ, List.getElem?_cons_zero]; rfl)
                    next => rfl
                    next => (intro w' hSw; have k0 := (hSw.cell (p := ⟨pu, 0, none⟩) hp8).trans PC8.out; have k1 := (hSw.cell (p := ⟨b, off + na * 11 + 1, none⟩) hb8).trans CA.out; have k2 := (hSw.cell (p := ⟨b, off + j * 11 + 1, none⟩) hb8).trans CJ.out; clear hSw; go_simp; first | done | with_reducible rfl)
                    simp only [Act.put, List.setIfInBounds_toArray, List.set_cons_zero, List.set_cons_succ]
                    apply Ord.walk_heavy
                    next => (simp only [List.getElem?_toArray, List.getElem?_cons_succ, List.getElem?_cons_zero]; rfl)
                    next => rfl
                    intro K hK
                    go_wp2_with fail
                    refine (is_is l _ W1.heap.size c da.name dj.name r _ IS.out (HU8.out.below hb hB8) (Nat.le_trans hB8 hb.size)).mono ?_; rintro e w' ⟨rfl, hb'⟩; dsimp only
                    refine hK.out _ _ (hb.trans (hb'.mono hb.size)) (fun hHeld => ?_)
                    clear hb hb'
                    have hb := hHeld
                    clear hK K
                    try simp only [Act.put, List.setIfInBounds_toArray, List.set_cons_zero, List.set_cons_succ]
                    refine Ord.walk_tail ?_; simp only [List.drop_succ_cons, List.drop_zero]
                    have FB := Aid.hid hb
                    clear hb
                    go_wp2_with fail
                    go_roundw
                    case rel => exact ⟨j + 1, by go_num, by omega, FB⟩
                    case measure => simp [intOf]; omega
                  · have hb := HR.out
                    have k0 := (hb.cell (p := ⟨pu, 0, none⟩) hp8).trans PC8.out
                    go_wp2_with fail
                    refine (chain_is l A W1.heap.size c na ch _ E10.out (HU8.out.below hb hB8) (Nat.le_trans hB8 hb.size)).mono ?_; rintro e w9 ⟨A9, c9, rfl, o9, hb9⟩
                    have O10d := Aid.hid (own_keeps (own_keeps O10c.out hb) hb9)
                    have O11d := Aid.hid (own_keeps (own_keeps O11c.out hb) hb9)
                    have O9 := Aid.hid o9
                    replace hb := hb.trans (hb9.mono hb.size)
                    clear hb9 k0 o9 O10c O11c
                    have k0 := (hb.cell (p := ⟨pu, 0, none⟩) hp8).trans PC8.out
                    go_wp2_with fail
                    refine (sameInts_b A9 A' c9 c' _ _ ch _ (IntsAt.of_own O9.out) (IntsAt.of_own O10d.out) lc).mono ?_; rintro e w10 ⟨rfl, hb10⟩
                    have O11e := Aid.hid (own_keeps O11d.out hb10)
                    replace hb := hb.trans (hb10.mono hb.size)
                    clear hb10 k0 O9 O10d O11d
                    have k0 := (hb.cell (p := ⟨pu, 0, none⟩) hp8).trans PC8.out
                    go_wp2_with fail
                    refine (fields_is l A W1.heap.size c na vs _ E11.out (HU8.out.below hb hB8) (Nat.le_trans hB8 hb.size) (by omega) HMM.out).mono ?_; rintro e w11 ⟨A11, c11, rfl, o11, hb11⟩
                    have O12 := Aid.hid o11
                    have O11f := Aid.hid (own_keeps O11e.out hb11)
                    replace hb := hb.trans (hb11.mono hb.size)
                    clear hb11 k0 o11 O11e
                    go_wp2_with fail
                    refine (sameVars_b A11 B' c11 b' _ _ vs _ (rows_own O12.out) (rows_own O11f.out) lv).mono ?_; rintro e w12 ⟨rfl, hb12⟩
                    replace hb := hb.trans (hb12.mono hb.size)
                    clear hb12 O12 O11f
                    have k1 := (hb.cell (p := ⟨qa, 0, none⟩) ha8).trans XA0.out
                    have k2 := (hb.cell (p := ⟨qa, 1, none⟩) ha8).trans XA1.out
                    go_wp2_with fail
                    refine (awake_any _).mono ?_; rintro e w13 ⟨rfl, hb13⟩
                    have FB := Aid.hid (WH8.out.trans ((hb.trans (hb13.mono hb.size)).mono WH8.out.size))
                    clear hb hb13 k1 k2
                    go_wp2_with fail
                    go_ret
                    exact ⟨rfl, FB.out⟩
theorem ln_low (x : Int) (n : Nat) (h : 0 < n) : ∃ r : Nat, low x n = r ∧ r < n := by
  obtain ⟨h1, h2⟩ := low_in x n (by omega)
  obtain ⟨r, hr⟩ := Int.eq_ofNat_of_zero_le h1
  exact ⟨r, hr, by omega⟩
theorem tableLines_any (x y z : Int) (w : World) :
    Calls Try.prog 6 #[.int .i64 x, .int .i64 y, .int .i64 z] w fun e w' => e = .returned (.bool true) ∧ Below w.heap.size w w' := by
  obtain ⟨nm, h1, h2⟩ := ln_low x 10 (by decide)
  obtain ⟨na, h3, h4⟩ := ln_low y (nm + 1) (by omega)
  obtain ⟨no, h5, h6⟩ := ln_low z (nm + 1) (by omega)
  exact tableLines_main x y z w nm (nm + 1) na no h1 rfl (by omega) h3 h4 h5 h6
end Go.Proofs.Ytjhlcfaakhabfaa
