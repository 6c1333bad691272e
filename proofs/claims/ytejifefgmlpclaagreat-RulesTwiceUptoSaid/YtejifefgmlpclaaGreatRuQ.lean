/- Lists of diagnostics: SameWrongs, OverWrongs, as walks. -/
import Derived.Test.YtejifefgmlpclaaGreatRowsK
import Derived.WalkSpells
import Derived.WalkLawsBesides
import Derived.LoopTactic
import Derived.Deep.QuietTactic
import Derived.BigQuiet
import Derived.OwnWalk
import Derived.Test.YtejifefgmlpclaaGreatRuN
import Derived.WalkKit
import Derived.Below
import Derived.Laws.ResultCell
import Derived.Laws.Tables
import Derived.Laws.Rows
import Derived.Deep.Cut
import Derived.KernelRfl
set_option linter.unusedSimpArgs false
set_option linter.unusedVariables false
namespace Go.Proofs.YtejifefgmlpclaaGreat
open Go.RowKit

def Wr.cells (p : Int × Int) : List Value := [.int .i64 p.1, .int .i64 p.2]
theorem Wr.len (l : List (Int × Int)) : ∀ r ∈ l.map Wr.cells, r.length = 2 := by
  intro r hr; obtain ⟨p, _, rfl⟩ := List.mem_map.1 hr; rfl
theorem wr_drewN_more (w : World) (m n : Nat) : (w.drewN m).drewN n = w.drewN (m + n) := by simp [World.drewN, Nat.add_assoc]
theorem info_wrong : (Tryz.prog.info? 39).map (fun i => (i.zero, i.size, i.bytes)) = some (some (.agg #[.int .i64 0, .int .i64 0]), 2, 16) := by kernel_rfl
theorem Rows.pair {w : World} {B : Nat} {A : Option Addr} {l : List (Int × Int)} (h : Rows w B 2 A (l.map Wr.cells)) (hn : 0 < l.length) :
    ∃ b off, A = some ⟨b, off, none⟩ ∧ b < B ∧ ∀ i p, l[i]? = some p → w.cell? ⟨b, off + i * 2, none⟩ = some (.int .i64 p.1) ∧ w.cell? ⟨b, off + i * 2 + 1, none⟩ = some (.int .i64 p.2) := by
  obtain ⟨b, off, h1, h2, h3⟩ := h (by simpa using hn)
  exact ⟨b, off, h1, h2, fun i p hp => ⟨h3 i (Wr.cells p) (by simp [hp]) 0 _ rfl, h3 i (Wr.cells p) (by simp [hp]) 1 _ rfl⟩⟩

set_option maxRecDepth 100000 in
set_option maxHeartbeats 2000000 in
theorem sameWrongs_walk (A C : Option Addr) (c d B B' : Nat) (xs ys : List (Int × Int)) (w : World) (hx : Rows w B 2 A (xs.map Wr.cells)) (hy : Rows w B' 2 C (ys.map Wr.cells)) (lx : xs.length < 1000000000) (ly : ys.length < 1000000000) :
    Calls Tryz.prog 9 #[.slice A xs.length c, .slice C ys.length d] w fun e w' => e = .returned (.bool (decide (xs = ys))) ∧ ∃ n, w' = w.drewN n := by
  have HX := Aid.hid hx; have HY := Aid.hid hy
  clear hx hy
  by_cases hl : xs.length = ys.length
  · go_enter Tryz.func9, Tryz.ntmps9
    try simp only [List.append_eq, List.cons_append, List.nil_append]
    rw [← hl]
    have HL := Aid.hid hl
    clear hl
    go_wp2_with fail
    go_loopw [5] (fun i wr => ∃ k : Nat, i = .int .i64 k ∧ k ≤ xs.length ∧ Hid (xs.take k = ys.take k) ∧ ∃ n, wr = w.drewN n) (fun i _ => xs.length - (intOf i).toNat)
    case atStart => exact ⟨0, rfl, Nat.zero_le _, Aid.hid (by simp), 0, rfl⟩
    case round =>
      obtain ⟨k, rfl, hk, E, n, rfl⟩ := hrel
      by_cases hlt : k < xs.length
      · obtain ⟨b1, o1, rfl, _, hc1⟩ := Rows.pair HX.out (by omega)
        obtain ⟨b2, o2, rfl, _, hc2⟩ := Rows.pair HY.out (by have := HL.out; omega)
        obtain ⟨x, hx⟩ : ∃ x, xs[k]? = some x := ⟨_, List.getElem?_eq_getElem hlt⟩
        obtain ⟨y, hy⟩ : ∃ y, ys[k]? = some y := ⟨_, List.getElem?_eq_getElem (by have := HL.out; omega)⟩
        have NX : Hid (x = y → xs.take (k + 1) = ys.take (k + 1)) := Aid.hid (fun h => by rw [List.take_add_one, List.take_add_one, E.out, hx, hy, h])
        have NE : Hid (x ≠ y → decide (xs = ys) = false) := Aid.hid (fun h => decide_eq_false (fun e => h (by subst e; rw [hx] at hy; exact Option.some.inj hy)))
        obtain ⟨wr, hwr⟩ : ∃ wr, wr = w.drewN n := ⟨_, rfl⟩
        obtain ⟨x1, x2⟩ := x
        obtain ⟨y1, y2⟩ := y
        have c1 : wr.cell? ⟨b1, o1 + k * 2, none⟩ = some (.int .i64 x1) := by rw [hwr]; exact (hc1 k _ hx).1
        have c2 : wr.cell? ⟨b1, o1 + k * 2 + 1, none⟩ = some (.int .i64 x2) := by rw [hwr]; exact (hc1 k _ hx).2
        have d1 : wr.cell? ⟨b2, o2 + k * 2, none⟩ = some (.int .i64 y1) := by rw [hwr]; exact (hc2 k _ hy).1
        have d2 : wr.cell? ⟨b2, o2 + k * 2 + 1, none⟩ = some (.int .i64 y2) := by rw [hwr]; exact (hc2 k _ hy).2
        rw [← hwr]
        have HW := Aid.hid hwr
        clear hc1 hc2 E hwr hx hy
        by_cases h1 : x1 = y1
        · by_cases h2 : x2 = y2
          · subst h1 h2
            have NR := Aid.hid (NX.out rfl)
            clear NX NE
            go_wp2_with fail
            go_quiet (fail)
            go_wp2_with fail
            go_roundw
            case rel => exact ⟨k + 1, by go_num, by omega, NR, n + nq, by rw [HW.out]; exact wr_drewN_more _ _ _⟩
            case measure => simp [intOf]; omega
          · have g2 : (x2 == y2) = false := by simpa using h2
            subst h1
            have N2 := Aid.hid (NE.out (fun e => h2 (Prod.mk.inj e).2))
            go_wp2_with fail
            go_quiet (fail)
            go_wp2_with fail
            go_ret
            exact ⟨by rw [N2.out]; rfl, n + nq, by rw [HW.out]; exact wr_drewN_more _ _ _⟩
        · have g1 : (x1 == y1) = false := by simpa using h1
          have N2 := Aid.hid (NE.out (fun e => h1 (Prod.mk.inj e).1))
          go_wp2_with fail
          go_quiet (fail)
          go_wp2_with fail
          go_ret
          exact ⟨by rw [N2.out]; rfl, n + nq, by rw [HW.out]; exact wr_drewN_more _ _ _⟩
      · go_wp2_with fail
        go_ret
        exact ⟨Aid.ret_bool (by
          have h := E.out
          have := HL.out
          rw [List.take_of_length_le (by omega), List.take_of_length_le (by omega)] at h
          simp [h]), n, rfl⟩
  · have hl2 : ((xs.length : Int) != (ys.length : Int)) = true := by simpa using (by omega : ¬ (xs.length : Int) = ys.length)
    have E := Aid.hid (show decide (xs = ys) = false from decide_eq_false (fun e => hl (by rw [e])))
    go_enter Tryz.func9, Tryz.ntmps9
    try simp only [List.append_eq, List.cons_append, List.nil_append]
    go_wp2_with fail
    go_ret
    exact ⟨by rw [E.out]; rfl, 0, rfl⟩
end Go.Proofs.YtejifefgmlpclaaGreat
/- What is wrong with each declaration of a unit: as walks. -/
namespace Go.Proofs.YtejifefgmlpclaaGreat
open Go.RowKit

theorem Ru.unitFrom_step {u : List Dk} {k : Nat} (h : k < u.length) (c : Int) (hc : Ru.decl u k = c) : Ru.unitFrom u (u.length - k) k = (if c ≠ 0 then [(c, (k : Int))] else []) ++ Ru.unitFrom u (u.length - (k + 1)) (k + 1) := by
  obtain ⟨n, hn⟩ : ∃ n, u.length - k = n + 1 := ⟨u.length - k - 1, by omega⟩
  rw [hn, Ru.unitFrom, hc, show u.length - (k + 1) = n by omega]
theorem Ru.unitFrom_end {u : List Dk} {k : Nat} (h : u.length ≤ k) : Ru.unitFrom u (u.length - k) k = [] := by
  rw [show u.length - k = 0 by omega]; rfl
set_option maxRecDepth 100000 in
set_option maxHeartbeats 4000000 in
theorem runit_is (u : List Dk) (a : Option Addr) (B cap : Nat) (zs : List (Int × Int)) (w : World) (hz : Ru.unit u = zs) (ha : RAll u cap) (hbo : RBodies w B u) (hu : UnitAt w B a u) (hB : B ≤ w.heap.size) :
    Calls Tryz.prog 5 #[.agg #[.slice a u.length cap]] w fun e w' => ∃ A c, e = .returned (.slice A zs.length c) ∧ w'.ownsRow w.heap.size 39 2 (.slice A zs.length c) zs.length (zs.map Wr.cells).flatten ∧ Below w.heap.size w w' := by
  have HU := Aid.hid hu; have HA := Aid.hid ha; have HBO := Aid.hid hbo; have HZ0 : Hid (([] : List (Int × Int)) ++ Ru.unitFrom u (u.length - 0) 0 = zs) := Aid.hid (by rw [← hz]; rfl)
  have sm := hu.small
  obtain ⟨W, hW, qu, k0⟩ := newn1 w [.slice a u.length cap] 24
  have K0 := Aid.hid k0
  have Nu := Aid.hid qu
  clear qu k0 hu ha hbo hz
  have xu0 := Nu.out.cell 0 _ rfl
  have lu := Nu.out.lt
  go_enter Tryz.func5, Tryz.ntmps5
  try simp only [List.append_eq, List.cons_append, List.nil_append]
  obtain ⟨i0, hi, hz0, hz1, hz2⟩ := info_parts info_wrong
  go_wp2_with fail
  (try clear hW)
  clear xu0 lu
  have O0 : W.ownsRow W.heap.size 39 2 (.slice none ([] : List (Int × Int)).length 0) ([] : List (Int × Int)).length (([] : List (Int × Int)).map Wr.cells).flatten := World.ownsRow_nil _ _ _ _
  have HO0 := Aid.hid O0
  clear O0
  go_loopw [9, 3] (fun vi vl wi => ∃ (k : Nat) (l : List (Int × Int)) (A : Option Addr) (c : Nat), vi = .int .i64 k ∧ vl = .slice A l.length c ∧ k ≤ u.length ∧ l.length ≤ k ∧ Hid (l ++ Ru.unitFrom u (u.length - k) k = zs) ∧ Hid (wi.ownsRow W.heap.size 39 2 (.slice A l.length c) l.length (l.map Wr.cells).flatten) ∧ Hid (Below W.heap.size W wi)) (fun vi _ _ => u.length - (intOf vi).toNat)
  case atStart => exact ⟨0, [], none, 0, rfl, rfl, Nat.zero_le _, Nat.zero_le _, HZ0, HO0, Aid.hid (Below.refl _ _)⟩
  case round =>
    clear HO0 HZ0
    obtain ⟨k, l, A, c, rfl, rfl, hk, hlk, HZ, HO, HB⟩ := hrel
    have KHB := Aid.hid ((K0.out).trans (HB.out.mono (K0.out).size))
    have Nu_HB := Aid.hid (Nu.out.below HB.out Nu.out.lt)
    by_cases hkl : k < u.length
    · obtain ⟨q, hq⟩ : ∃ q, Ru.decl u k = q := ⟨_, rfl⟩
      have HQ := Aid.hid hq
      have HST := Ru.unitFrom_step hkl q hq
      have HZ2 := HZ.out
      rw [HST] at HZ2
      have HZ3 := Aid.hid HZ2
      clear hq HST HZ2
      have xu0 := Nu_HB.out.cell 0 _ rfl
      have lu := Nu_HB.out.lt
      go_wp2_with fail
      refine (decl_is u a B cap (k : Int) q _ HQ.out HA.out (HBO.out.below (KHB.out) hB) (HU.out.below (KHB.out) hB) (Nat.le_trans hB (KHB.out).size)).mono ?_; rintro _ w1 ⟨rfl, hb1⟩
      have HO2 := Aid.hid (own_keeps HO.out hb1)
      have R1_1 := Aid.hid ((HB).out.trans (hb1.mono (HB).out.size))
      have Kx1 := Aid.hid ((KHB.out).trans (hb1.mono (KHB.out).size))
      have Nu_1 := Aid.hid (Nu_HB.out.below hb1 Nu_HB.out.lt)
      clear xu0 lu
      clear hb1
      have xu0 := Nu_1.out.cell 0 _ rfl
      have lu := Nu_1.out.lt
      skip
      by_cases h0 : q = 0
      · subst h0
        have NX : Hid (l ++ Ru.unitFrom u (u.length - (k + 1)) (k + 1) = zs) := Aid.hid (by have h := HZ3.out; simpa using h)
        go_wp2_with fail
        go_roundw
        case rel => exact ⟨k + 1, l, A, c, by go_num, rfl, by omega, by omega, NX, HO2, R1_1⟩
        case measure => simp [intOf]; omega
      · have e0 : (q != 0) = true := by simpa using h0
        have NX : Hid ((l ++ [(q, (k : Int))]) ++ Ru.unitFrom u (u.length - (k + 1)) (k + 1) = zs) := Aid.hid (by have h := HZ3.out; rw [if_pos h0] at h; rw [List.append_assoc]; exact h)
        clear h0
        obtain ⟨X, hX⟩ : ∃ X, w1.alloc (.cells #[.int .i64 q, .int .i64 (k : Int)] 39) = X := ⟨_, rfl⟩
        have hg := new_at hX
        have kX := below_at hX (R1_1.out)
        have HOX := Aid.hid (HO2.out.alloc (.cells #[.int .i64 q, .int .i64 (k : Int)] 39))
        rw [hX] at HOX
        have HGX := Aid.hid hg; have KX := Aid.hid kX
        clear hg kX
        go_wp2_with (at_builtin; refine wpList_append_own _ rfl _ _ 26 rfl W.heap.size 39 i0 (.agg #[.int .i64 0, .int .i64 0]) 2 16 Tryz.underlying26 hi hz0 hz1 hz2 rfl (by decide) _ _ _ rfl HOX.out ⟨w1.heap.size, 0, none⟩ 1 1 [.int .i64 q, .int .i64 (k : Int)] rfl rfl ?c1 ?c2 ?c3 ?c4 ?c5 ?_)
        case c1 =>
          intro j x hj
          match j, hj with
          | 0, hj => simp at hj; subst hj; exact HGX.out.cell 0 _ rfl
          | 1, hj => simp at hj; subst hj; exact HGX.out.cell 1 _ rfl
        case c2 => intro x hx; simp at hx; rcases hx with rfl | rfl <;> rfl
        case c3 => unfold maxLen; omega
        case c4 => omega
        case c5 => exact KX.out.size
        · intro v' w3 hown' hgrow _
          have hb3 := Aid.hid (KX.out.grown hgrow KX.out.size (fun q hq => by have := (HOX.out.lt q hq).1; omega))
          obtain ⟨g9, c9, rfl, _, _⟩ := hown'.form (by omega)
          have HO9 : Hid (w3.ownsRow W.heap.size 39 2 (.slice (some ⟨g9, 0, none⟩) (l ++ [(q, (k : Int))]).length c9) (l ++ [(q, (k : Int))]).length ((l ++ [(q, (k : Int))]).map Wr.cells).flatten) := Aid.hid (by simpa [Wr.cells] using hown')
          clear hown' hgrow
          go_wp2_with fail
          go_roundw
          case rel => exact ⟨k + 1, l ++ [(q, (k : Int))], some ⟨g9, 0, none⟩, c9, by go_num, by simp, by omega, by simp; omega, NX, HO9, hb3⟩
          case measure => simp [intOf]; omega
    · obtain rfl : l = zs := by rw [← HZ.out, Ru.unitFrom_end (by omega)]; simp
      have HF := Aid.hid (own_lowers HO.out (K0.out).size)
      go_wp2_with fail
      go_ret
      exact ⟨A, c, rfl, HF.out, KHB.out⟩
end Go.Proofs.YtejifefgmlpclaaGreat
/- What every program answers that is one (chapter 8). -/
namespace Go.Proofs.YtejifefgmlpclaaGreat
open Go.RowKit

theorem Rows.of_has {w : World} {b B sz : Nat} {t : TypeId} {rows : List (List Value)} (h : Aid.Has w b rows.flatten t) (hb : b < B) (hs : ∀ r ∈ rows, r.length = sz) : Rows w B sz (some ⟨b, 0, none⟩) rows := fun _ =>
  ⟨b, 0, rfl, hb, fun i r hr j v hv => by rw [Nat.zero_add]; exact h.cell _ _ (Rows.flat rows hs i r hr j v hv)⟩
/-- A declaration of nothing but a kind, names and numbers. -/
def Ru.bare (k : Int) (name base : ByteArray) (every : Int) : Dk := ⟨k, name, base, none, [], 0, false, false, none, [], 0, none, [], 0, none, [], 0, every, 0⟩
structure Ru.Bare (d : Dk) : Prop where
  f : d.faces = []
  v : d.vs = []
  m : d.ms = []
  b : d.body = []
theorem Ru.bare_is (k : Int) (name base : ByteArray) (every : Int) : Ru.Bare (Ru.bare k name base every) := ⟨rfl, rfl, rfl, rfl⟩
theorem Ru.Bare.at {d : Dk} (h : Ru.Bare d) (w : World) (B : Nat) : DkAt w B d := by
  refine ⟨?_, ?_, ?_, ?_, ?_, ?_, ?_, 0, ?_⟩
  · rw [h.f]; exact Rows.nil_ _ _ _ _
  · rw [h.v]; exact Rows.nil_ _ _ _ _
  · rw [h.m]; exact Rows.nil_ _ _ _ _
  · rw [h.m]; intro m hm; cases hm
  · rw [h.f]; exact Nat.zero_le _
  · rw [h.v]; exact Nat.zero_le _
  · rw [h.m]; exact Nat.zero_le _
  · exact h.b
theorem Ru.bare_all {u : List Dk} {cap : Nat} (h : ∀ d ∈ u, Ru.Bare d) (hn : u.length ≤ 20) (hc : u.length ≤ cap) : RAll u cap := by
  refine ⟨⟨⟨hn, fun d hd => ?_, fun d hd m hm => ?_⟩, fun d hd m hm => ?_⟩, ⟨hn, fun d hd => ?_, fun d hd v hv => ?_⟩, ⟨hc, fun d hd => ?_, fun d hd => ?_, fun d hd => ?_, fun d hd m hm => ?_⟩⟩
  · rw [(h d hd).v]; exact Nat.zero_le _
  · rw [(h d hd).m] at hm; cases hm
  · rw [(h d hd).m] at hm; cases hm
  · rw [(h d hd).v]; exact Nat.zero_le _
  · rw [(h d hd).v] at hv; cases hv
  · rw [(h d hd).f]; exact Nat.zero_le _
  · rw [(h d hd).v]; exact Nat.zero_le _
  · rw [(h d hd).m]; exact Nat.zero_le _
  · rw [(h d hd).m] at hm; cases hm
theorem Ru.bare_bodies {u : List Dk} (h : ∀ d ∈ u, Ru.Bare d) (w : World) (B : Nat) : RBodies w B u := fun d hd => ⟨⟨0, (h d hd).b, trivial⟩, fun m hm => by rw [(h d hd).m] at hm; cases hm⟩
def Ru.two : List Dk := [Ru.bare 3 ⟨#[80]⟩ ⟨#[]⟩ 0, Ru.bare 4 ⟨#[84]⟩ ⟨#[81]⟩ 1]
theorem Ru.two_bare : ∀ d ∈ Ru.two, Ru.Bare d := by
  intro d hd
  rcases List.mem_cons.1 hd with rfl | hd
  · exact Ru.bare_is _ _ _ _
  · rcases List.mem_cons.1 hd with rfl | hd
    · exact Ru.bare_is _ _ _ _
    · cases hd
theorem Ru.two_unit : Ru.unit Ru.two = [(17, 1)] := by kernel_rfl
theorem Ru.two_d0 : Ru.decl Ru.two 0 = 0 := by kernel_rfl
theorem Ru.two_d2 : Ru.decl Ru.two 2 = 22 := by kernel_rfl
theorem dk_len (l : List Dk) : ∀ r ∈ l.map Dk.cells, r.length = 11 := by
  intro r hr; obtain ⟨p, _, rfl⟩ := List.mem_map.1 hr; rfl
set_option maxRecDepth 100000 in
set_option maxHeartbeats 4000000 in
theorem rawake_is (w : World) :
    Calls Tryz.prog 6 #[] w fun z w' => z = .returned (.bool true) ∧ Below w.heap.size w w' := by
  obtain ⟨W, hW, ql, qu, k0⟩ := newn2 w [.int .i64 3, .string ⟨#[80]⟩, .string ⟨#[]⟩, .slice none 0 0, .bool false, .bool false, .slice none 0 0, .slice none 0 0, .slice none 0 0, .int .i64 0, .int .i64 0, .int .i64 4, .string ⟨#[84]⟩, .string ⟨#[81]⟩, .slice none 0 0, .bool false, .bool false, .slice none 0 0, .slice none 0 0, .slice none 0 0, .int .i64 1, .int .i64 0] [.slice (some ⟨w.heap.size, 0, none⟩) 2 2] 34 24
  have K0 := Aid.hid k0
  have Nl := Aid.hid ql
  have Nu := Aid.hid qu
  clear ql qu k0
  have xu0 := Nu.out.cell 0 _ rfl
  have lu := Nu.out.lt
  go_enter Tryz.func6, Tryz.ntmps6
  try simp only [List.append_eq, List.cons_append, List.nil_append]
  have HUU : Hid (UnitAt W W.heap.size (some ⟨w.heap.size, 0, none⟩) Ru.two) := Aid.hid ⟨Rows.of_has (rows := Ru.two.map Dk.cells) Nl.out Nl.out.lt (dk_len _), fun d hd => (Ru.two_bare d hd).at _ _, by decide⟩
  have HAA : Hid (RAll Ru.two 2) := Aid.hid (Ru.bare_all Ru.two_bare (by decide) (by decide))
  have HBB := fun (w0 : World) (B0 : Nat) => Ru.bare_bodies Ru.two_bare w0 B0
  have RW := Aid.hid (Below.refl W.heap.size W)
  go_wp2_with fail
  (try clear hW)
  refine (runit_is Ru.two _ W.heap.size 2 [(17, 1)] _ Ru.two_unit HAA.out (HBB _ _) (HUU.out.below RW.out (Nat.le_refl _)) RW.out.size).mono ?_; rintro _ w1 ⟨A1, c1, rfl, hown, hb1⟩
  have R1_1 := Aid.hid ((RW).out.trans (hb1.mono (RW).out.size))
  have Kx1 := Aid.hid ((K0.out).trans (hb1.mono (K0.out).size))
  have Nl_1 := Aid.hid (Nl.out.below hb1 Nl.out.lt)
  have Nu_1 := Aid.hid (Nu.out.below hb1 Nu.out.lt)
  clear xu0 lu
  clear hb1
  have xu0 := Nu_1.out.cell 0 _ rfl
  have lu := Nu_1.out.lt
  have HO := Aid.hid hown
  clear hown
  obtain ⟨X2, hX⟩ : ∃ X, w1.alloc (.cells #[.int .i64 17, .int .i64 1] 39) = X := ⟨_, rfl⟩
  have qg := new_at hX
  have ql := all_at hX Nl_1.out
  have qu := all_at hX Nu_1.out
  have qqk := below_at hX (Kx1.out)
  have qqs := below_at0 hX
  have Nl_2 := Aid.hid ql
  have Nu_2 := Aid.hid qu
  have Ng_2 := Aid.hid qg
  have Kx2 := Aid.hid qqk
  have Qs2 := Aid.hid qqs
  clear qqk qqs ql qu qg
  clear xu0 lu
  have xu0 := Nu_2.out.cell 0 _ rfl
  have lu := Nu_2.out.lt
  have R3_2 := Aid.hid ((R1_1).out.trans (Qs2.out.mono (R1_1).out.size))
  have HOX := Aid.hid (own_keeps HO.out Qs2.out)
  go_wp2_with fail
  (try clear hX)
  have HC := sameWrongs_walk A1 (some ⟨w1.heap.size, 0, none⟩) c1 1 _ _ [(17, 1)] [(17, 1)] _ (Rows.of_own (Wr.len _) (c := c1) (by simpa using HOX.out)) (Rows.of_has (rows := [(17, 1)].map Wr.cells) Ng_2.out Ng_2.out.lt (Wr.len _)) (by decide) (by decide)
  refine HC.mono ?_; rintro _ w3 ⟨rfl, nq, hq⟩
  have hb3 : Below X2.heap.size X2 w3 := by rw [hq]; exact below_drewN' (Below.refl _ _) nq
  clear hq HC
  have R4_3 := Aid.hid ((R3_2).out.trans (hb3.mono (R3_2).out.size))
  have Kx4 := Aid.hid ((Kx2.out).trans (hb3.mono (Kx2.out).size))
  have Nl_4 := Aid.hid (Nl_2.out.below hb3 Nl_2.out.lt)
  have Nu_4 := Aid.hid (Nu_2.out.below hb3 Nu_2.out.lt)
  have Ng_4 := Aid.hid (Ng_2.out.below hb3 Ng_2.out.lt)
  clear xu0 lu
  clear hb3
  have xu0 := Nu_4.out.cell 0 _ rfl
  have lu := Nu_4.out.lt
  go_wp2_with fail
  refine (decl_is Ru.two _ W.heap.size 2 0 0 _ Ru.two_d0 HAA.out (HBB _ _) (HUU.out.below R4_3.out (Nat.le_refl _)) R4_3.out.size).mono ?_; rintro _ w5 ⟨rfl, hb5⟩
  have R5_4 := Aid.hid ((R4_3).out.trans (hb5.mono (R4_3).out.size))
  have Kx5 := Aid.hid ((Kx4.out).trans (hb5.mono (Kx4.out).size))
  have Nl_5 := Aid.hid (Nl_4.out.below hb5 Nl_4.out.lt)
  have Nu_5 := Aid.hid (Nu_4.out.below hb5 Nu_4.out.lt)
  have Ng_5 := Aid.hid (Ng_4.out.below hb5 Ng_4.out.lt)
  clear xu0 lu
  clear hb5
  have xu0 := Nu_5.out.cell 0 _ rfl
  have lu := Nu_5.out.lt
  go_wp2_with fail
  refine (decl_is Ru.two _ W.heap.size 2 2 22 _ Ru.two_d2 HAA.out (HBB _ _) (HUU.out.below R5_4.out (Nat.le_refl _)) R5_4.out.size).mono ?_; rintro _ w6 ⟨rfl, hb6⟩
  have R6_5 := Aid.hid ((R5_4).out.trans (hb6.mono (R5_4).out.size))
  have Kx6 := Aid.hid ((Kx5.out).trans (hb6.mono (Kx5.out).size))
  have Nl_6 := Aid.hid (Nl_5.out.below hb6 Nl_5.out.lt)
  have Nu_6 := Aid.hid (Nu_5.out.below hb6 Nu_5.out.lt)
  have Ng_6 := Aid.hid (Ng_5.out.below hb6 Ng_5.out.lt)
  clear xu0 lu
  clear hb6
  have xu0 := Nu_6.out.cell 0 _ rfl
  have lu := Nu_6.out.lt
  go_wp2_with fail
  go_ret
  exact ⟨rfl, Kx6.out⟩
end Go.Proofs.YtejifefgmlpclaaGreat
