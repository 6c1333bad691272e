/- Chapter 7: what every program answers that is one; its unit. -/
import Derived.Test.YtmhdcehpddbjaaaR7A
import Derived.Test.YtmhdcehpddbjaaaTyN
import Derived.Test.YtmhdcehpddbjaaaOrd
import Derived.WalkKit
import Derived.WalkSpells
import Derived.WalkLawsBesides
import Derived.LoopTactic
import Derived.Deep.QuietTactic
import Derived.BigQuiet
import Derived.Below
import Derived.Laws.ResultCell
import Derived.Laws.Tables
import Derived.Laws.Rows
import Derived.Deep.Cut
import Derived.KernelRfl
set_option linter.unusedSimpArgs false
set_option linter.unusedVariables false
namespace Go.Proofs.Ytmhdcehpddbjaaa
open Go.RowKit

def Ty.xv : Vd := ⟨⟨#[120]⟩, ⟨1, 0, 0, ⟨#[]⟩⟩, 0, 0, 0⟩
def Ty.oneD (vb : Nat) : Dk := ⟨3, ⟨#[80]⟩, ⟨#[]⟩, none, [], 0, false, false, some ⟨vb, 0, none⟩, [Ty.xv], 1, none, [], 0, none, [], 0, 0, 0⟩
theorem rows_one {w : World} {B b sz : Nat} {t : TypeId} {r : List Value} (h : Aid.Has w b r t) (hb : b < B) : Rows w B sz (some ⟨b, 0, none⟩) [r] := fun _ =>
 ⟨b, 0, rfl, hb, fun i x hx j v hv => by
  match i, hx with
  | 0, hx => cases hx; exact h.cell (0 + 0 * sz + j) v (by simpa using hv)⟩
theorem rows_two {w : World} {B b sz : Nat} {t : TypeId} {r s : List Value} (h : Aid.Has w b (r ++ s) t) (hr : r.length = sz) (hb : b < B) : Rows w B sz (some ⟨b, 0, none⟩) [r, s] := fun _ =>
 ⟨b, 0, rfl, hb, fun i x hx j v hv => by
  match i, hx with
  | 0, hx =>
   cases hx
   have hj : j < r.length := (List.getElem?_eq_some_iff.1 hv).1
   exact h.cell (0 + 0 * sz + j) v (by rw [show 0 + 0 * sz + j = j by omega, List.getElem?_append_left hj]; exact hv)
  | 1, hx =>
   cases hx
   exact h.cell (0 + 1 * sz + j) v (by rw [show 0 + 1 * sz + j = r.length + j by omega, List.getElem?_append_right (by omega), Nat.add_sub_cancel_left]; exact hv)⟩
theorem one_at {w : World} {vb db : Nat} (hv : Aid.Has w vb [.string ⟨#[120]⟩, .int .i64 1, .int .i64 0, .int .i64 0, .string ⟨#[]⟩, .int .i64 0, .int .i64 0, .int .i64 0] 74) (hd : Aid.Has w db [.int .i64 3, .string ⟨#[80]⟩, .string ⟨#[]⟩, .slice none 0 0, .bool false, .bool false, .slice (some ⟨vb, 0, none⟩) 1 1, .slice none 0 0, .slice none 0 0, .int .i64 0, .int .i64 0] 48) : UnitAt w w.heap.size (some ⟨db, 0, none⟩) [Ty.oneD vb] :=
 ⟨rows_one (t := 48) hd hd.lt, fun d h => by
  obtain rfl : d = Ty.oneD vb := by simpa using h
  exact ⟨Rows.nil_ _ _ _ _, rows_one (t := 74) hv hv.lt, Rows.nil_ _ _ _ _, fun m hm => by simp [Ty.oneD] at hm, by simp [Ty.oneD], by simp [Ty.oneD], by simp [Ty.oneD], 0, rfl⟩, by simp⟩
set_option maxRecDepth 100000 in
set_option maxHeartbeats 4000000 in
theorem one_is (w : World) :
  Calls Try.prog 24 #[] w fun z w' => ∃ vb db, z = .returned (.agg #[.slice (some ⟨db, 0, none⟩) 1 1]) ∧ Aid.Has w' vb [.string ⟨#[120]⟩, .int .i64 1, .int .i64 0, .int .i64 0, .string ⟨#[]⟩, .int .i64 0, .int .i64 0, .int .i64 0] 74 ∧ Aid.Has w' db [.int .i64 3, .string ⟨#[80]⟩, .string ⟨#[]⟩, .slice none 0 0, .bool false, .bool false, .slice (some ⟨vb, 0, none⟩) 1 1, .slice none 0 0, .slice none 0 0, .int .i64 0, .int .i64 0] 48 ∧ Below w.heap.size w w' := by
 obtain ⟨n0, n1, n2, k0⟩ := three_new w [.slice (some ⟨w.heap.size + 1 + 1, 0, none⟩) 1 1] [.string ⟨#[120]⟩, .int .i64 1, .int .i64 0, .int .i64 0, .string ⟨#[]⟩, .int .i64 0, .int .i64 0, .int .i64 0] [.int .i64 3, .string ⟨#[80]⟩, .string ⟨#[]⟩, .slice none 0 0, .bool false, .bool false, .slice (some ⟨w.heap.size + 1, 0, none⟩) 1 1, .slice none 0 0, .slice none 0 0, .int .i64 0, .int .i64 0] 24 74 48
 have c0 := n0.cell 0 _ rfl
 have N1 := Aid.hid n1; have N2 := Aid.hid n2; have K0 := Aid.hid k0
 clear n0 n1 n2 k0
 go_enter Try.func24, Try.ntmps24
 try simp only [List.append_eq, List.cons_append, List.nil_append]
 go_wp2_with fail
 exact bodyPost_ret (v := .agg #[.slice (some ⟨w.heap.size + 1 + 1, 0, none⟩) 1 1]) (by simp [results, Try.results24, go_sem]) rfl ⟨_, _, rfl, N1.out, N2.out, K0.out⟩
set_option maxRecDepth 100000 in
set_option maxHeartbeats 4000000 in
theorem body_is (w : World) :
  Calls Try.prog 25 #[] w fun z w' => z = .returned (.agg #[.int .i64 0, .int .i64 (-1)]) ∧ Below w.heap.size w w' := by
 go_enter Try.func25, Try.ntmps25
 try simp only [List.append_eq, List.cons_append, List.nil_append]
 go_wp2_with fail
 exact bodyPost_ret (v := .agg #[.int .i64 0, .int .i64 (-1)]) (by simp [results, Try.results25, go_sem]) rfl ⟨rfl, below_new _ _⟩
def Ex.xx : Ex := .mk 5 0 ⟨#[120]⟩ ⟨#[]⟩ none [] 0
def Ex.n0 : Ex := .mk 1 0 ⟨#[]⟩ ⟨#[]⟩ none [] 0
def Ex.lt (g : Nat) : Ex := .mk 9 8 ⟨#[]⟩ ⟨#[]⟩ (some ⟨g, 0, none⟩) [Ex.xx, Ex.n0] 2
def Ex.nx (g : Nat) : Ex := .mk 8 0 ⟨#[]⟩ ⟨#[]⟩ (some ⟨g, 0, none⟩) [Ex.xx] 1
theorem Ex.lt_is (vb g : Nat) : Ty.expr ⟨[Ty.oneD vb], -1, none, [Ty.xv]⟩ (Ex.lt g) = (Ty.of 2, 0) := by kernel_rfl
theorem Ex.nx_is (vb g : Nat) : Ty.expr ⟨[Ty.oneD vb], -1, none, [Ty.xv]⟩ (Ex.nx g) = (Ty.none_, 14) := by kernel_rfl
theorem exs_nil (w : World) (B : Nat) : ExsAt 1 w B none [] := ⟨by simp, Rows.nil_ _ _ _ _, by simp⟩
theorem exs_lt {w : World} {g : Nat} (h : Aid.Has w g ([.int .i64 5, .int .i64 0, .string ⟨#[120]⟩, .string ⟨#[]⟩, .slice none 0 0] ++ [.int .i64 1, .int .i64 0, .string ⟨#[]⟩, .string ⟨#[]⟩, .slice none 0 0]) 29) : ExsAt 2 w w.heap.size (some ⟨g, 0, none⟩) [Ex.xx, Ex.n0] :=
 ⟨by decide, rows_two (t := 29) h rfl h.lt, fun e he => by
  rcases List.mem_cons.1 he with rfl | he
  ·
   exact exs_nil _ _
  ·
   obtain rfl : e = Ex.n0 := by simpa using he
   exact exs_nil _ _⟩
theorem exs_nx {w : World} {g : Nat} (h : Aid.Has w g [.int .i64 5, .int .i64 0, .string ⟨#[120]⟩, .string ⟨#[]⟩, .slice none 0 0] 29) : ExsAt 2 w w.heap.size (some ⟨g, 0, none⟩) [Ex.xx] :=
 ⟨by decide, rows_one (t := 29) h h.lt, fun e he => by
  obtain rfl : e = Ex.xx := by simpa using he
  exact exs_nil _ _⟩
theorem exlim_lt (g : Nat) : ExLim 2 (Ex.lt g).args := ⟨by simp [Ex.lt, Ex.args], fun e he => by
  rcases List.mem_cons.1 he with rfl | he
  ·
   exact ⟨by decide, by simp [Ex.xx, Ex.args]⟩
  ·
   obtain rfl : e = Ex.n0 := by simpa using he
   exact ⟨by decide, by simp [Ex.n0, Ex.args]⟩⟩
theorem exlim_nx (g : Nat) : ExLim 2 (Ex.nx g).args := ⟨by simp [Ex.nx, Ex.args], fun e he => by
  obtain rfl : e = Ex.xx := by simpa [Ex.nx, Ex.args] using he
  exact ⟨by decide, by simp [Ex.xx, Ex.args]⟩⟩
/-- One of the two expressions is asked. -/
def Ty.Asked (a0 : Act) (sl : List Nat) (ev : Nat → Value) (extra : List (Nat × Value)) (t : Ty) (c : Int) (k n : Nat) (W : World) (e : Exit) (a' : Act) (w' : World) : Prop :=
 e = .normal ∧ ∃ db g g2, a' = putL a0 ((match sl with
  | [s0, s1, s2, s3, s4, s5, s6, s7, s8, s9, s10] => [(s0, .agg #[.slice (some ⟨db, 0, none⟩) 1 1]), (s1, .agg #[.int .i64 0, .int .i64 (-1)]), (s2, .agg #[.int .i64 5, .int .i64 0, .string ⟨#[120]⟩, .string ⟨#[]⟩, .slice none 0 0]), (s3, .slice (some ⟨g, 0, none⟩) n n), (s4, ev g), (s5, .tuple #[.agg #[.int .i64 t.k, .int .i64 t.lo, .int .i64 t.hi, .string t.name], .int .i64 c]), (s6, .tuple #[.agg #[.int .i64 t.k, .int .i64 t.lo, .int .i64 t.hi, .string t.name], .int .i64 c]), (s7, .agg #[.int .i64 t.k, .int .i64 t.lo, .int .i64 t.hi, .string t.name]), (s8, .int .i64 c), (s9, .pointer (some ⟨g2, 0, none⟩)), (s10, .int .i64 c)]
  | _ => []) ++ extra) ∧ Aid.Has w' g2 [.int .i64 t.k, .int .i64 t.lo, .int .i64 t.hi, .string t.name] 36 ∧ Below W.heap.size W w'
set_option maxRecDepth 100000 in
set_option maxHeartbeats 4000000 in
theorem stmts_exit (b : Nat) (s : St) (g cap : Nat) (w : World) (hk : s.k = 10) (h1 : s.es = []) (h2 : s.bs = []) (h3 : s.ls = []) (hg : Aid.Has w g [.int .i64 s.k, .int .i64 s.n, .string s.name, .slice s.eA s.es.length s.ec, .slice s.lA s.ls.length s.lc, .slice s.bA s.bs.length s.bc] 58) :
  Calls Try.prog 41 #[.pointer (some ⟨b, 0, none⟩), .slice (some ⟨g, 0, none⟩) 1 cap, .bool false] w fun z w' => z = .returned (.int .i64 14) ∧ Below w.heap.size w w' := by
 have HC := Aid.hid (stmt_exit b 0 s false (w.alloc (.cells #[.int .i64 s.k, .int .i64 s.n, .string s.name, .slice s.eA s.es.length s.ec, .slice s.lA s.ls.length s.lc, .slice s.bA s.bs.length s.bc] 58)) hk h1 h2 h3)
 have c0 := hg.cell 0 _ rfl
 have c1 := hg.cell 1 _ rfl
 have c2 := hg.cell 2 _ rfl
 have c3 := hg.cell 3 _ rfl
 have c4 := hg.cell 4 _ rfl
 have c5 := hg.cell 5 _ rfl
 have lg := hg.lt
 clear hk h1 h2 h3 hg
 go_enter Try.func41, Try.ntmps41
 try simp only [List.append_eq, List.cons_append, List.nil_append]
 go_wp2_with fail
 go_loopw [12] (fun vi wr => vi = .int .i64 0 ∧ wr = w) (fun _ _ => 0)
 case atStart => exact ⟨rfl, rfl⟩
 case round =>
  obtain ⟨rfl, rfl⟩ := hrel
  go_wp2_with fail
  refine HC.out.mono ?_; rintro _ w5 ⟨rfl, hb5⟩
  have K5 := Aid.hid ((below_new wr (.cells #[.int .i64 s.k, .int .i64 s.n, .string s.name, .slice s.eA s.es.length s.ec, .slice s.lA s.ls.length s.lc, .slice s.bA s.bs.length s.bc] 58)).trans (hb5.mono (by simp)))
  clear hb5
  go_wp2_with fail
  go_ret
  exact ⟨rfl, K5.out⟩
def St.exit : St := .mk 10 0 ⟨#[]⟩ none [] 0 none [] 0 none [] 0
set_option maxRecDepth 100000 in
set_option maxHeartbeats 4000000 in
theorem Stmts_exit (vb db g cap : Nat) (w : World) (hv : Aid.Has w vb [.string ⟨#[120]⟩, .int .i64 1, .int .i64 0, .int .i64 0, .string ⟨#[]⟩, .int .i64 0, .int .i64 0, .int .i64 0] 74) (hd : Aid.Has w db [.int .i64 3, .string ⟨#[80]⟩, .string ⟨#[]⟩, .slice none 0 0, .bool false, .bool false, .slice (some ⟨vb, 0, none⟩) 1 1, .slice none 0 0, .slice none 0 0, .int .i64 0, .int .i64 0] 48) (hg : Aid.Has w g [.int .i64 10, .int .i64 0, .string ⟨#[]⟩, .slice none 0 0, .slice none 0 0, .slice none 0 0] 58) :
  Calls Try.prog 16 #[.agg #[.slice (some ⟨db, 0, none⟩) 1 1], .agg #[.int .i64 0, .int .i64 (-1)], .slice (some ⟨g, 0, none⟩) 1 cap] w fun z w' => z = .returned (.int .i64 14) ∧ Below w.heap.size w w' := by
 obtain ⟨n2, n3, k0⟩ := two_new w [.slice (some ⟨db, 0, none⟩) 1 1] [.int .i64 0, .int .i64 (-1)] 24 26
 obtain ⟨W, hW⟩ : ∃ W, (w.alloc (.cells #[.slice (some ⟨db, 0, none⟩) 1 1] 24)).alloc (.cells #[.int .i64 0, .int .i64 (-1)] 26) = W := ⟨_, rfl⟩
 rw [hW] at n2 n3 k0
 have HC := Aid.hid (at_prog [Ty.oneD vb] (some ⟨db, 0, none⟩) _ 1 0 (Ty.oneD vb) W rfl rfl (by simp [Ty.oneD]) (one_at (hv.below k0 hv.lt) (hd.below k0 hd.lt)) (Nat.le_refl _))
 have x3 := n2.cell 0 _ rfl
 have x40 := n3.cell 0 _ rfl
 have x41 := n3.cell 1 _ rfl
 have l3 := n2.lt
 have l4 := n3.lt
 have K0 := Aid.hid k0; have HG := Aid.hid hg
 clear hv hd hg n2 n3 k0
 go_enter Try.func16, Try.ntmps16
 try simp only [List.append_eq, List.cons_append, List.nil_append]
 go_wp2_with fail
 clear hW
 refine HC.out.mono ?_; rintro _ w1 ⟨b, A, rfl, hp, hb1⟩
 have k1 := K0.out.trans (hb1.mono K0.out.size)
 have HCC := Aid.hid (stmts_exit b St.exit g cap w1 rfl rfl rfl rfl (HG.out.below k1 HG.out.lt))
 have K1 := Aid.hid k1
 clear hp hb1 k1 x3 x40 x41 l3 l4 HC
 go_wp2_with fail
 refine HCC.out.mono ?_; rintro _ w9 ⟨rfl, hb9⟩
 have K9 := Aid.hid (K1.out.trans (hb9.mono K1.out.size))
 clear hb9
 go_wp2_with fail
 go_ret
 exact ⟨rfl, K9.out⟩
set_option maxRecDepth 100000 in
set_option maxHeartbeats 4000000 in
theorem awake_is (w : World) :
  Calls Try.prog 12 #[] w fun z w' => z = .returned (.bool true) ∧ Below w.heap.size w w' := by
 have n1 := Aid.Has.new w [.int .i64 5, .int .i64 0, .string ⟨#[120]⟩, .string ⟨#[]⟩, .slice none 0 0] 29
 have k0 := below_new w (.cells #[.int .i64 5, .int .i64 0, .string ⟨#[120]⟩, .string ⟨#[]⟩, .slice none 0 0] 29)
 go_enter Try.func12, Try.ntmps12
 try simp only [List.append_eq, List.cons_append, List.nil_append]
 go_wp2_with fail
 obtain ⟨W, hW⟩ : ∃ W, w.alloc (.cells #[.int .i64 5, .int .i64 0, .string ⟨#[120]⟩, .string ⟨#[]⟩, .slice none 0 0] 29) = W := ⟨_, rfl⟩
 rw [hW] at n1 k0 ⊢
 obtain ⟨p1, hp1⟩ : ∃ p, w.heap.size = p := ⟨_, rfl⟩
 rw [hp1] at n1 ⊢
 have N1 := Aid.hid n1; have K0 := Aid.hid k0
 clear hW hp1 k0
 refine wp_cut (fun a0 => Ty.Asked a0 [8, 9, 10, 12, 13, 14, 7, 15, 16, 2, 3] (fun g => .agg #[.int .i64 9, .int .i64 8, .string ⟨#[]⟩, .string ⟨#[]⟩, .slice (some ⟨g, 0, none⟩) 2 2]) [(11, .agg #[.int .i64 1, .int .i64 0, .string ⟨#[]⟩, .string ⟨#[]⟩, .slice none 0 0])] (Ty.of 2) 0 0 2 W) ?_ ?_
 ·
  have p0 := n1.cell 0 _ rfl
  have p1c := n1.cell 1 _ rfl
  have p2 := n1.cell 2 _ rfl
  have p3 := n1.cell 3 _ rfl
  have p4 := n1.cell 4 _ rfl
  have lp1 := n1.lt
  have hb : Below W.heap.size W W.drew := (Below.refl _ _).drew
  clear n1 N1 K0
  refine Ord.wp_region_go (fun w' => Below W.heap.size W w') 12 [2, 3, 5, 7, 8, 9] (by kernel_rfl) (by kernel_rfl) (fun _ _ _ _ _ h => by cases h.1) (hb) ?_
  clear hb
  have hb : Below W.heap.size W W.drew := (Below.refl _ _).drew
  generalize W.drew = wd0 at *
  apply Ord.go_light (i := 2) (by kernel_rfl)
  next => (simp only [la0, la1, la2]; rfl)
  next => rfl
  next => (intro w' hSw; have z0 := kc hSw p0 lp1; have z1 := kc hSw p1c lp1; have z2 := kc hSw p2 lp1; have z3 := kc hSw p3 lp1; have z4 := kc hSw p4 lp1; clear hSw; go_simp; first | done | with_reducible rfl)
  simp only [Act.put, la3, la4, la5]
  apply Ord.go_light (i := 3) (by kernel_rfl)
  next => (simp only [la0, la1, la2]; rfl)
  next => rfl
  next => (intro w' hSw; clear hSw; go_simp; first | done | with_reducible rfl)
  simp only [Act.put, la3, la4, la5]
  refine Ord.go_three (i := 0) (j := 4) (k := 10) (by kernel_rfl) (by kernel_rfl) ?_ ?_ ?_
  ·
   apply Ord.go_done1
   next => (simp only [List.getElem?_toArray, List.getElem?_cons_zero]; rfl)
   next => rfl
   intro K hK
   go_wp2_with fail
   refine (one_is _).mono ?_; rintro _ wq1 ⟨vb, db, rfl, hv, hd, hb'⟩; dsimp only
   refine hK.out _ _ (hb.trans (hb'.mono hb.size)) (fun hHeld => ?_)
   clear hb hb'
   have hb := hHeld
   clear hK K
   try simp only [Act.put, la3, la4, la5]
   refine Ord.go_three (i := 1) (j := 4) (k := 10) (by kernel_rfl) (by kernel_rfl) ?_ ?_ ?_
   ·
    apply Ord.go_done1
    next => (simp only [la0, la1, la2]; rfl)
    next => rfl
    intro K hK
    go_wp2_with fail
    refine (body_is _).mono ?_; rintro _ wq2 ⟨rfl, hb'⟩; dsimp only
    refine hK.out _ _ (hb.trans (hb'.mono hb.size)) (fun hHeld => ?_)
    replace hv := hv.below hb' hv.lt
    replace hd := hd.below hb' hd.lt
    clear hb hb'
    have hb := hHeld
    clear hK K
    try simp only [Act.put, la3, la4, la5]
    refine Ord.go_two (i := 4) (j := 10) (by kernel_rfl) (by kernel_rfl) ?_ ?_
    ·
     apply Ord.go_done1
     next => (simp only [la0, la1, la2]; rfl)
     next => rfl
     intro K hK
     go_wp2_with fail
     obtain ⟨wq3, hx⟩ : ∃ q, wq2.alloc (.cells #[.int .i64 5, .int .i64 0, .string ⟨#[120]⟩, .string ⟨#[]⟩, .slice none 0 0, .int .i64 1, .int .i64 0, .string ⟨#[]⟩, .string ⟨#[]⟩, .slice none 0 0] 29) = q := ⟨_, rfl⟩
     have hg := Aid.Has.new wq2 [.int .i64 5, .int .i64 0, .string ⟨#[120]⟩, .string ⟨#[]⟩, .slice none 0 0, .int .i64 1, .int .i64 0, .string ⟨#[]⟩, .string ⟨#[]⟩, .slice none 0 0] 29
     have hb' := below_new wq2 (.cells #[.int .i64 5, .int .i64 0, .string ⟨#[120]⟩, .string ⟨#[]⟩, .slice none 0 0, .int .i64 1, .int .i64 0, .string ⟨#[]⟩, .string ⟨#[]⟩, .slice none 0 0] 29)
     rw [hx] at hg hb' ⊢
     refine hK.out _ _ (hb.trans (hb'.mono hb.size)) (fun hHeld => ?_)
     replace hv := hv.below hb' hv.lt
     replace hd := hd.below hb' hd.lt
     generalize wq2.heap.size = gb at *
     clear hb hb'
     have hb := hHeld
     clear hx
     clear hK K
     try simp only [Act.put, la3, la4, la5]
     apply Ord.go_light (i := 5) (by kernel_rfl)
     next => (simp only [la0, la1, la2]; rfl)
     next => rfl
     next => (intro w' hSw; clear hSw; go_simp; first | done | with_reducible rfl)
     simp only [Act.put, la3, la4, la5]
     refine Ord.go_two (i := 6) (j := 10) (by kernel_rfl) (by kernel_rfl) ?_ ?_
     ·
      apply Ord.go_done1
      next => (simp only [la0, la1, la2]; rfl)
      next => rfl
      intro K hK
      go_wp2_with fail
      refine (Expr_prog 2 [Ty.oneD vb] (some ⟨db, 0, none⟩) _ 1 0 (Ty.oneD vb) (Ex.lt gb) (Ty.of 2) 0 _ rfl rfl (by simp [Ty.oneD]) (one_at hv hd) (Nat.le_refl _) (exs_lt hg) (exlim_lt gb) (Ex.lt_is vb gb)).mono ?_; rintro _ wq4 ⟨rfl, hb'⟩; dsimp only
      refine hK.out _ _ (hb.trans (hb'.mono hb.size)) (fun hHeld => ?_)
      replace hv := hv.below hb' hv.lt
      replace hd := hd.below hb' hd.lt
      replace hg := hg.below hb' hg.lt
      clear hb hb'
      have hb := hHeld
      clear hK K
      try simp only [Act.put, la3, la4, la5]
      apply Ord.go_light (i := 7) (by kernel_rfl)
      next => (simp only [la0, la1, la2]; rfl)
      next => rfl
      next => (intro w' hSw; clear hSw; go_simp; first | done | with_reducible rfl)
      simp only [Act.put, la3, la4, la5]
      apply Ord.go_light (i := 8) (by kernel_rfl)
      next => (simp only [la0, la1, la2]; rfl)
      next => rfl
      next => (intro w' hSw; clear hSw; go_simp; first | done | with_reducible rfl)
      simp only [Act.put, la3, la4, la5]
      apply Ord.go_light (i := 9) (by kernel_rfl)
      next => (simp only [la0, la1, la2]; rfl)
      next => rfl
      next => (intro w' hSw; clear hSw; go_simp; first | done | with_reducible rfl)
      simp only [Act.put, la3, la4, la5]
      refine Ord.go_one (i := 10) (by kernel_rfl) (by kernel_rfl) ?_
      apply Ord.go_done1
      next => (simp only [la0, la1, la2]; rfl)
      next => rfl
      intro K hK
      go_wp2_with fail
      obtain ⟨wq5, hx⟩ : ∃ q, wq4.alloc (.cells #[.int .i64 0, .int .i64 0, .int .i64 0, .string ⟨#[]⟩] 36) = q := ⟨_, rfl⟩
      have ha := Aid.Has.new wq4 [.int .i64 0, .int .i64 0, .int .i64 0, .string ⟨#[]⟩] 36
      have hb' := below_new wq4 (.cells #[.int .i64 0, .int .i64 0, .int .i64 0, .string ⟨#[]⟩] 36)
      rw [hx] at ha hb' ⊢
      have hal : W.heap.size ≤ wq4.heap.size := hb.size
      refine hK.out _ _ (hb.trans (hb'.mono hb.size)) (fun hHeld => ?_)
      replace hv := hv.below hb' hv.lt
      replace hd := hd.below hb' hd.lt
      replace hg := hg.below hb' hg.lt
      generalize wq4.heap.size = ga at *
      clear hb hb'
      have hb := hHeld
      clear hx
      clear hK K
      try simp only [Act.put, la3, la4, la5]
      refine Ord.go_one (i := 11) (by kernel_rfl) (by kernel_rfl) ?_
      apply Ord.go_done1
      next => (simp only [la0, la1, la2]; rfl)
      next => rfl
      intro K hK
      have q0 := ha.cell 0 _ rfl
      have q1 := ha.cell 1 _ rfl
      have q2 := ha.cell 2 _ rfl
      have q3 := ha.cell 3 _ rfl
      have f0 := ha.frozen 0
      have f1 := ha.frozen 1
      have f2 := ha.frozen 2
      have f3 := ha.frozen 3
      have lga := ha.lt
      go_wp2_with fail
      refine hK.out _ _ (below4 (g := ga) _ _ _ _ hb hal) (fun hHeld => ?_)
      replace ha := set4 (.int .i64 (Ty.of 2).k) (.int .i64 (Ty.of 2).lo) (.int .i64 (Ty.of 2).hi) (.string (Ty.of 2).name) ha
      clear hb q0 q1 q2 q3 f0 f1 f2 f3 lga
      have hb := hHeld
      clear hK K
      refine Ord.go_tail ?_; simp only [List.drop_succ_cons, List.drop_zero]
      go_wp2_with fail
      refine ⟨rfl, db, gb, ga, ?_, ha, hb⟩
      simp only [putL, List.append_eq, List.cons_append, List.nil_append, Act.put, la3, la4, la5]
      try rfl
     ·
      apply Ord.go_done1
      next => (simp only [la0, la1, la2]; rfl)
      next => rfl
      intro K hK
      go_wp2_with fail
      obtain ⟨wq4, hx⟩ : ∃ q, wq3.alloc (.cells #[.int .i64 0, .int .i64 0, .int .i64 0, .string ⟨#[]⟩] 36) = q := ⟨_, rfl⟩
      have ha := Aid.Has.new wq3 [.int .i64 0, .int .i64 0, .int .i64 0, .string ⟨#[]⟩] 36
      have hb' := below_new wq3 (.cells #[.int .i64 0, .int .i64 0, .int .i64 0, .string ⟨#[]⟩] 36)
      rw [hx] at ha hb' ⊢
      have hal : W.heap.size ≤ wq3.heap.size := hb.size
      refine hK.out _ _ (hb.trans (hb'.mono hb.size)) (fun hHeld => ?_)
      replace hv := hv.below hb' hv.lt
      replace hd := hd.below hb' hd.lt
      replace hg := hg.below hb' hg.lt
      generalize wq3.heap.size = ga at *
      clear hb hb'
      have hb := hHeld
      clear hx
      clear hK K
      try simp only [Act.put, la3, la4, la5]
      refine Ord.go_one (i := 6) (by kernel_rfl) (by kernel_rfl) ?_
      apply Ord.go_done1
      next => (simp only [la0, la1, la2]; rfl)
      next => rfl
      intro K hK
      go_wp2_with fail
      refine (Expr_prog 2 [Ty.oneD vb] (some ⟨db, 0, none⟩) _ 1 0 (Ty.oneD vb) (Ex.lt gb) (Ty.of 2) 0 _ rfl rfl (by simp [Ty.oneD]) (one_at hv hd) (Nat.le_refl _) (exs_lt hg) (exlim_lt gb) (Ex.lt_is vb gb)).mono ?_; rintro _ wq5 ⟨rfl, hb'⟩; dsimp only
      refine hK.out _ _ (hb.trans (hb'.mono hb.size)) (fun hHeld => ?_)
      replace hv := hv.below hb' hv.lt
      replace hd := hd.below hb' hd.lt
      replace hg := hg.below hb' hg.lt
      replace ha := ha.below hb' ha.lt
      clear hb hb'
      have hb := hHeld
      clear hK K
      try simp only [Act.put, la3, la4, la5]
      apply Ord.go_light (i := 7) (by kernel_rfl)
      next => (simp only [la0, la1, la2]; rfl)
      next => rfl
      next => (intro w' hSw; clear hSw; go_simp; first | done | with_reducible rfl)
      simp only [Act.put, la3, la4, la5]
      apply Ord.go_light (i := 8) (by kernel_rfl)
      next => (simp only [la0, la1, la2]; rfl)
      next => rfl
      next => (intro w' hSw; clear hSw; go_simp; first | done | with_reducible rfl)
      simp only [Act.put, la3, la4, la5]
      apply Ord.go_light (i := 9) (by kernel_rfl)
      next => (simp only [la0, la1, la2]; rfl)
      next => rfl
      next => (intro w' hSw; clear hSw; go_simp; first | done | with_reducible rfl)
      simp only [Act.put, la3, la4, la5]
      refine Ord.go_one (i := 11) (by kernel_rfl) (by kernel_rfl) ?_
      apply Ord.go_done1
      next => (simp only [la0, la1, la2]; rfl)
      next => rfl
      intro K hK
      have q0 := ha.cell 0 _ rfl
      have q1 := ha.cell 1 _ rfl
      have q2 := ha.cell 2 _ rfl
      have q3 := ha.cell 3 _ rfl
      have f0 := ha.frozen 0
      have f1 := ha.frozen 1
      have f2 := ha.frozen 2
      have f3 := ha.frozen 3
      have lga := ha.lt
      go_wp2_with fail
      refine hK.out _ _ (below4 (g := ga) _ _ _ _ hb hal) (fun hHeld => ?_)
      replace ha := set4 (.int .i64 (Ty.of 2).k) (.int .i64 (Ty.of 2).lo) (.int .i64 (Ty.of 2).hi) (.string (Ty.of 2).name) ha
      clear hb q0 q1 q2 q3 f0 f1 f2 f3 lga
      have hb := hHeld
      clear hK K
      refine Ord.go_tail ?_; simp only [List.drop_succ_cons, List.drop_zero]
      go_wp2_with fail
      refine ⟨rfl, db, gb, ga, ?_, ha, hb⟩
      simp only [putL, List.append_eq, List.cons_append, List.nil_append, Act.put, la3, la4, la5]
      try rfl
    ·
     apply Ord.go_done1
     next => (simp only [la0, la1, la2]; rfl)
     next => rfl
     intro K hK
     go_wp2_with fail
     obtain ⟨wq3, hx⟩ : ∃ q, wq2.alloc (.cells #[.int .i64 0, .int .i64 0, .int .i64 0, .string ⟨#[]⟩] 36) = q := ⟨_, rfl⟩
     have ha := Aid.Has.new wq2 [.int .i64 0, .int .i64 0, .int .i64 0, .string ⟨#[]⟩] 36
     have hb' := below_new wq2 (.cells #[.int .i64 0, .int .i64 0, .int .i64 0, .string ⟨#[]⟩] 36)
     rw [hx] at ha hb' ⊢
     have hal : W.heap.size ≤ wq2.heap.size := hb.size
     refine hK.out _ _ (hb.trans (hb'.mono hb.size)) (fun hHeld => ?_)
     replace hv := hv.below hb' hv.lt
     replace hd := hd.below hb' hd.lt
     generalize wq2.heap.size = ga at *
     clear hb hb'
     have hb := hHeld
     clear hx
     clear hK K
     try simp only [Act.put, la3, la4, la5]
     refine Ord.go_one (i := 4) (by kernel_rfl) (by kernel_rfl) ?_
     apply Ord.go_done1
     next => (simp only [la0, la1, la2]; rfl)
     next => rfl
     intro K hK
     go_wp2_with fail
     obtain ⟨wq4, hx⟩ : ∃ q, wq3.alloc (.cells #[.int .i64 5, .int .i64 0, .string ⟨#[120]⟩, .string ⟨#[]⟩, .slice none 0 0, .int .i64 1, .int .i64 0, .string ⟨#[]⟩, .string ⟨#[]⟩, .slice none 0 0] 29) = q := ⟨_, rfl⟩
     have hg := Aid.Has.new wq3 [.int .i64 5, .int .i64 0, .string ⟨#[120]⟩, .string ⟨#[]⟩, .slice none 0 0, .int .i64 1, .int .i64 0, .string ⟨#[]⟩, .string ⟨#[]⟩, .slice none 0 0] 29
     have hb' := below_new wq3 (.cells #[.int .i64 5, .int .i64 0, .string ⟨#[120]⟩, .string ⟨#[]⟩, .slice none 0 0, .int .i64 1, .int .i64 0, .string ⟨#[]⟩, .string ⟨#[]⟩, .slice none 0 0] 29)
     rw [hx] at hg hb' ⊢
     refine hK.out _ _ (hb.trans (hb'.mono hb.size)) (fun hHeld => ?_)
     replace hv := hv.below hb' hv.lt
     replace hd := hd.below hb' hd.lt
     replace ha := ha.below hb' ha.lt
     generalize wq3.heap.size = gb at *
     clear hb hb'
     have hb := hHeld
     clear hx
     clear hK K
     try simp only [Act.put, la3, la4, la5]
     apply Ord.go_light (i := 5) (by kernel_rfl)
     next => (simp only [la0, la1, la2]; rfl)
     next => rfl
     next => (intro w' hSw; clear hSw; go_simp; first | done | with_reducible rfl)
     simp only [Act.put, la3, la4, la5]
     refine Ord.go_one (i := 6) (by kernel_rfl) (by kernel_rfl) ?_
     apply Ord.go_done1
     next => (simp only [la0, la1, la2]; rfl)
     next => rfl
     intro K hK
     go_wp2_with fail
     refine (Expr_prog 2 [Ty.oneD vb] (some ⟨db, 0, none⟩) _ 1 0 (Ty.oneD vb) (Ex.lt gb) (Ty.of 2) 0 _ rfl rfl (by simp [Ty.oneD]) (one_at hv hd) (Nat.le_refl _) (exs_lt hg) (exlim_lt gb) (Ex.lt_is vb gb)).mono ?_; rintro _ wq5 ⟨rfl, hb'⟩; dsimp only
     refine hK.out _ _ (hb.trans (hb'.mono hb.size)) (fun hHeld => ?_)
     replace hv := hv.below hb' hv.lt
     replace hd := hd.below hb' hd.lt
     replace hg := hg.below hb' hg.lt
     replace ha := ha.below hb' ha.lt
     clear hb hb'
     have hb := hHeld
     clear hK K
     try simp only [Act.put, la3, la4, la5]
     apply Ord.go_light (i := 7) (by kernel_rfl)
     next => (simp only [la0, la1, la2]; rfl)
     next => rfl
     next => (intro w' hSw; clear hSw; go_simp; first | done | with_reducible rfl)
     simp only [Act.put, la3, la4, la5]
     apply Ord.go_light (i := 8) (by kernel_rfl)
     next => (simp only [la0, la1, la2]; rfl)
     next => rfl
     next => (intro w' hSw; clear hSw; go_simp; first | done | with_reducible rfl)
     simp only [Act.put, la3, la4, la5]
     apply Ord.go_light (i := 9) (by kernel_rfl)
     next => (simp only [la0, la1, la2]; rfl)
     next => rfl
     next => (intro w' hSw; clear hSw; go_simp; first | done | with_reducible rfl)
     simp only [Act.put, la3, la4, la5]
     refine Ord.go_one (i := 11) (by kernel_rfl) (by kernel_rfl) ?_
     apply Ord.go_done1
     next => (simp only [la0, la1, la2]; rfl)
     next => rfl
     intro K hK
     have q0 := ha.cell 0 _ rfl
     have q1 := ha.cell 1 _ rfl
     have q2 := ha.cell 2 _ rfl
     have q3 := ha.cell 3 _ rfl
     have f0 := ha.frozen 0
     have f1 := ha.frozen 1
     have f2 := ha.frozen 2
     have f3 := ha.frozen 3
     have lga := ha.lt
     go_wp2_with fail
     refine hK.out _ _ (below4 (g := ga) _ _ _ _ hb hal) (fun hHeld => ?_)
     replace ha := set4 (.int .i64 (Ty.of 2).k) (.int .i64 (Ty.of 2).lo) (.int .i64 (Ty.of 2).hi) (.string (Ty.of 2).name) ha
     clear hb q0 q1 q2 q3 f0 f1 f2 f3 lga
     have hb := hHeld
     clear hK K
     refine Ord.go_tail ?_; simp only [List.drop_succ_cons, List.drop_zero]
     go_wp2_with fail
     refine ⟨rfl, db, gb, ga, ?_, ha, hb⟩
     simp only [putL, List.append_eq, List.cons_append, List.nil_append, Act.put, la3, la4, la5]
     try rfl
   ·
    apply Ord.go_done1
    next => (simp only [la0, la1, la2]; rfl)
    next => rfl
    intro K hK
    go_wp2_with fail
    obtain ⟨wq2, hx⟩ : ∃ q, wq1.alloc (.cells #[.int .i64 5, .int .i64 0, .string ⟨#[120]⟩, .string ⟨#[]⟩, .slice none 0 0, .int .i64 1, .int .i64 0, .string ⟨#[]⟩, .string ⟨#[]⟩, .slice none 0 0] 29) = q := ⟨_, rfl⟩
    have hg := Aid.Has.new wq1 [.int .i64 5, .int .i64 0, .string ⟨#[120]⟩, .string ⟨#[]⟩, .slice none 0 0, .int .i64 1, .int .i64 0, .string ⟨#[]⟩, .string ⟨#[]⟩, .slice none 0 0] 29
    have hb' := below_new wq1 (.cells #[.int .i64 5, .int .i64 0, .string ⟨#[120]⟩, .string ⟨#[]⟩, .slice none 0 0, .int .i64 1, .int .i64 0, .string ⟨#[]⟩, .string ⟨#[]⟩, .slice none 0 0] 29)
    rw [hx] at hg hb' ⊢
    refine hK.out _ _ (hb.trans (hb'.mono hb.size)) (fun hHeld => ?_)
    replace hv := hv.below hb' hv.lt
    replace hd := hd.below hb' hd.lt
    generalize wq1.heap.size = gb at *
    clear hb hb'
    have hb := hHeld
    clear hx
    clear hK K
    try simp only [Act.put, la3, la4, la5]
    apply Ord.go_light (i := 5) (by kernel_rfl)
    next => (simp only [la0, la1, la2]; rfl)
    next => rfl
    next => (intro w' hSw; clear hSw; go_simp; first | done | with_reducible rfl)
    simp only [Act.put, la3, la4, la5]
    refine Ord.go_two (i := 1) (j := 10) (by kernel_rfl) (by kernel_rfl) ?_ ?_
    ·
     apply Ord.go_done1
     next => (simp only [la0, la1, la2]; rfl)
     next => rfl
     intro K hK
     go_wp2_with fail
     refine (body_is _).mono ?_; rintro _ wq3 ⟨rfl, hb'⟩; dsimp only
     refine hK.out _ _ (hb.trans (hb'.mono hb.size)) (fun hHeld => ?_)
     replace hv := hv.below hb' hv.lt
     replace hd := hd.below hb' hd.lt
     replace hg := hg.below hb' hg.lt
     clear hb hb'
     have hb := hHeld
     clear hK K
     try simp only [Act.put, la3, la4, la5]
     refine Ord.go_two (i := 6) (j := 10) (by kernel_rfl) (by kernel_rfl) ?_ ?_
     ·
      apply Ord.go_done1
      next => (simp only [la0, la1, la2]; rfl)
      next => rfl
      intro K hK
      go_wp2_with fail
      refine (Expr_prog 2 [Ty.oneD vb] (some ⟨db, 0, none⟩) _ 1 0 (Ty.oneD vb) (Ex.lt gb) (Ty.of 2) 0 _ rfl rfl (by simp [Ty.oneD]) (one_at hv hd) (Nat.le_refl _) (exs_lt hg) (exlim_lt gb) (Ex.lt_is vb gb)).mono ?_; rintro _ wq4 ⟨rfl, hb'⟩; dsimp only
      refine hK.out _ _ (hb.trans (hb'.mono hb.size)) (fun hHeld => ?_)
      replace hv := hv.below hb' hv.lt
      replace hd := hd.below hb' hd.lt
      replace hg := hg.below hb' hg.lt
      clear hb hb'
      have hb := hHeld
      clear hK K
      try simp only [Act.put, la3, la4, la5]
      apply Ord.go_light (i := 7) (by kernel_rfl)
      next => (simp only [la0, la1, la2]; rfl)
      next => rfl
      next => (intro w' hSw; clear hSw; go_simp; first | done | with_reducible rfl)
      simp only [Act.put, la3, la4, la5]
      apply Ord.go_light (i := 8) (by kernel_rfl)
      next => (simp only [la0, la1, la2]; rfl)
      next => rfl
      next => (intro w' hSw; clear hSw; go_simp; first | done | with_reducible rfl)
      simp only [Act.put, la3, la4, la5]
      apply Ord.go_light (i := 9) (by kernel_rfl)
      next => (simp only [la0, la1, la2]; rfl)
      next => rfl
      next => (intro w' hSw; clear hSw; go_simp; first | done | with_reducible rfl)
      simp only [Act.put, la3, la4, la5]
      refine Ord.go_one (i := 10) (by kernel_rfl) (by kernel_rfl) ?_
      apply Ord.go_done1
      next => (simp only [la0, la1, la2]; rfl)
      next => rfl
      intro K hK
      go_wp2_with fail
      obtain ⟨wq5, hx⟩ : ∃ q, wq4.alloc (.cells #[.int .i64 0, .int .i64 0, .int .i64 0, .string ⟨#[]⟩] 36) = q := ⟨_, rfl⟩
      have ha := Aid.Has.new wq4 [.int .i64 0, .int .i64 0, .int .i64 0, .string ⟨#[]⟩] 36
      have hb' := below_new wq4 (.cells #[.int .i64 0, .int .i64 0, .int .i64 0, .string ⟨#[]⟩] 36)
      rw [hx] at ha hb' ⊢
      have hal : W.heap.size ≤ wq4.heap.size := hb.size
      refine hK.out _ _ (hb.trans (hb'.mono hb.size)) (fun hHeld => ?_)
      replace hv := hv.below hb' hv.lt
      replace hd := hd.below hb' hd.lt
      replace hg := hg.below hb' hg.lt
      generalize wq4.heap.size = ga at *
      clear hb hb'
      have hb := hHeld
      clear hx
      clear hK K
      try simp only [Act.put, la3, la4, la5]
      refine Ord.go_one (i := 11) (by kernel_rfl) (by kernel_rfl) ?_
      apply Ord.go_done1
      next => (simp only [la0, la1, la2]; rfl)
      next => rfl
      intro K hK
      have q0 := ha.cell 0 _ rfl
      have q1 := ha.cell 1 _ rfl
      have q2 := ha.cell 2 _ rfl
      have q3 := ha.cell 3 _ rfl
      have f0 := ha.frozen 0
      have f1 := ha.frozen 1
      have f2 := ha.frozen 2
      have f3 := ha.frozen 3
      have lga := ha.lt
      go_wp2_with fail
      refine hK.out _ _ (below4 (g := ga) _ _ _ _ hb hal) (fun hHeld => ?_)
      replace ha := set4 (.int .i64 (Ty.of 2).k) (.int .i64 (Ty.of 2).lo) (.int .i64 (Ty.of 2).hi) (.string (Ty.of 2).name) ha
      clear hb q0 q1 q2 q3 f0 f1 f2 f3 lga
      have hb := hHeld
      clear hK K
      refine Ord.go_tail ?_; simp only [List.drop_succ_cons, List.drop_zero]
      go_wp2_with fail
      refine ⟨rfl, db, gb, ga, ?_, ha, hb⟩
      simp only [putL, List.append_eq, List.cons_append, List.nil_append, Act.put, la3, la4, la5]
      try rfl
     ·
      apply Ord.go_done1
      next => (simp only [la0, la1, la2]; rfl)
      next => rfl
      intro K hK
      go_wp2_with fail
      obtain ⟨wq4, hx⟩ : ∃ q, wq3.alloc (.cells #[.int .i64 0, .int .i64 0, .int .i64 0, .string ⟨#[]⟩] 36) = q := ⟨_, rfl⟩
      have ha := Aid.Has.new wq3 [.int .i64 0, .int .i64 0, .int .i64 0, .string ⟨#[]⟩] 36
      have hb' := below_new wq3 (.cells #[.int .i64 0, .int .i64 0, .int .i64 0, .string ⟨#[]⟩] 36)
      rw [hx] at ha hb' ⊢
      have hal : W.heap.size ≤ wq3.heap.size := hb.size
      refine hK.out _ _ (hb.trans (hb'.mono hb.size)) (fun hHeld => ?_)
      replace hv := hv.below hb' hv.lt
      replace hd := hd.below hb' hd.lt
      replace hg := hg.below hb' hg.lt
      generalize wq3.heap.size = ga at *
      clear hb hb'
      have hb := hHeld
      clear hx
      clear hK K
      try simp only [Act.put, la3, la4, la5]
      refine Ord.go_one (i := 6) (by kernel_rfl) (by kernel_rfl) ?_
      apply Ord.go_done1
      next => (simp only [la0, la1, la2]; rfl)
      next => rfl
      intro K hK
      go_wp2_with fail
      refine (Expr_prog 2 [Ty.oneD vb] (some ⟨db, 0, none⟩) _ 1 0 (Ty.oneD vb) (Ex.lt gb) (Ty.of 2) 0 _ rfl rfl (by simp [Ty.oneD]) (one_at hv hd) (Nat.le_refl _) (exs_lt hg) (exlim_lt gb) (Ex.lt_is vb gb)).mono ?_; rintro _ wq5 ⟨rfl, hb'⟩; dsimp only
      refine hK.out _ _ (hb.trans (hb'.mono hb.size)) (fun hHeld => ?_)
      replace hv := hv.below hb' hv.lt
      replace hd := hd.below hb' hd.lt
      replace hg := hg.below hb' hg.lt
      replace ha := ha.below hb' ha.lt
      clear hb hb'
      have hb := hHeld
      clear hK K
      try simp only [Act.put, la3, la4, la5]
      apply Ord.go_light (i := 7) (by kernel_rfl)
      next => (simp only [la0, la1, la2]; rfl)
      next => rfl
      next => (intro w' hSw; clear hSw; go_simp; first | done | with_reducible rfl)
      simp only [Act.put, la3, la4, la5]
      apply Ord.go_light (i := 8) (by kernel_rfl)
      next => (simp only [la0, la1, la2]; rfl)
      next => rfl
      next => (intro w' hSw; clear hSw; go_simp; first | done | with_reducible rfl)
      simp only [Act.put, la3, la4, la5]
      apply Ord.go_light (i := 9) (by kernel_rfl)
      next => (simp only [la0, la1, la2]; rfl)
      next => rfl
      next => (intro w' hSw; clear hSw; go_simp; first | done | with_reducible rfl)
      simp only [Act.put, la3, la4, la5]
      refine Ord.go_one (i := 11) (by kernel_rfl) (by kernel_rfl) ?_
      apply Ord.go_done1
      next => (simp only [la0, la1, la2]; rfl)
      next => rfl
      intro K hK
      have q0 := ha.cell 0 _ rfl
      have q1 := ha.cell 1 _ rfl
      have q2 := ha.cell 2 _ rfl
      have q3 := ha.cell 3 _ rfl
      have f0 := ha.frozen 0
      have f1 := ha.frozen 1
      have f2 := ha.frozen 2
      have f3 := ha.frozen 3
      have lga := ha.lt
      go_wp2_with fail
      refine hK.out _ _ (below4 (g := ga) _ _ _ _ hb hal) (fun hHeld => ?_)
      replace ha := set4 (.int .i64 (Ty.of 2).k) (.int .i64 (Ty.of 2).lo) (.int .i64 (Ty.of 2).hi) (.string (Ty.of 2).name) ha
      clear hb q0 q1 q2 q3 f0 f1 f2 f3 lga
      have hb := hHeld
      clear hK K
      refine Ord.go_tail ?_; simp only [List.drop_succ_cons, List.drop_zero]
      go_wp2_with fail
      refine ⟨rfl, db, gb, ga, ?_, ha, hb⟩
      simp only [putL, List.append_eq, List.cons_append, List.nil_append, Act.put, la3, la4, la5]
      try rfl
    ·
     apply Ord.go_done1
     next => (simp only [la0, la1, la2]; rfl)
     next => rfl
     intro K hK
     go_wp2_with fail
     obtain ⟨wq3, hx⟩ : ∃ q, wq2.alloc (.cells #[.int .i64 0, .int .i64 0, .int .i64 0, .string ⟨#[]⟩] 36) = q := ⟨_, rfl⟩
     have ha := Aid.Has.new wq2 [.int .i64 0, .int .i64 0, .int .i64 0, .string ⟨#[]⟩] 36
     have hb' := below_new wq2 (.cells #[.int .i64 0, .int .i64 0, .int .i64 0, .string ⟨#[]⟩] 36)
     rw [hx] at ha hb' ⊢
     have hal : W.heap.size ≤ wq2.heap.size := hb.size
     refine hK.out _ _ (hb.trans (hb'.mono hb.size)) (fun hHeld => ?_)
     replace hv := hv.below hb' hv.lt
     replace hd := hd.below hb' hd.lt
     replace hg := hg.below hb' hg.lt
     generalize wq2.heap.size = ga at *
     clear hb hb'
     have hb := hHeld
     clear hx
     clear hK K
     try simp only [Act.put, la3, la4, la5]
     refine Ord.go_one (i := 1) (by kernel_rfl) (by kernel_rfl) ?_
     apply Ord.go_done1
     next => (simp only [la0, la1, la2]; rfl)
     next => rfl
     intro K hK
     go_wp2_with fail
     refine (body_is _).mono ?_; rintro _ wq4 ⟨rfl, hb'⟩; dsimp only
     refine hK.out _ _ (hb.trans (hb'.mono hb.size)) (fun hHeld => ?_)
     replace hv := hv.below hb' hv.lt
     replace hd := hd.below hb' hd.lt
     replace hg := hg.below hb' hg.lt
     replace ha := ha.below hb' ha.lt
     clear hb hb'
     have hb := hHeld
     clear hK K
     try simp only [Act.put, la3, la4, la5]
     refine Ord.go_one (i := 6) (by kernel_rfl) (by kernel_rfl) ?_
     apply Ord.go_done1
     next => (simp only [la0, la1, la2]; rfl)
     next => rfl
     intro K hK
     go_wp2_with fail
     refine (Expr_prog 2 [Ty.oneD vb] (some ⟨db, 0, none⟩) _ 1 0 (Ty.oneD vb) (Ex.lt gb) (Ty.of 2) 0 _ rfl rfl (by simp [Ty.oneD]) (one_at hv hd) (Nat.le_refl _) (exs_lt hg) (exlim_lt gb) (Ex.lt_is vb gb)).mono ?_; rintro _ wq5 ⟨rfl, hb'⟩; dsimp only
     refine hK.out _ _ (hb.trans (hb'.mono hb.size)) (fun hHeld => ?_)
     replace hv := hv.below hb' hv.lt
     replace hd := hd.below hb' hd.lt
     replace hg := hg.below hb' hg.lt
     replace ha := ha.below hb' ha.lt
     clear hb hb'
     have hb := hHeld
     clear hK K
     try simp only [Act.put, la3, la4, la5]
     apply Ord.go_light (i := 7) (by kernel_rfl)
     next => (simp only [la0, la1, la2]; rfl)
     next => rfl
     next => (intro w' hSw; clear hSw; go_simp; first | done | with_reducible rfl)
     simp only [Act.put, la3, la4, la5]
     apply Ord.go_light (i := 8) (by kernel_rfl)
     next => (simp only [la0, la1, la2]; rfl)
     next => rfl
     next => (intro w' hSw; clear hSw; go_simp; first | done | with_reducible rfl)
     simp only [Act.put, la3, la4, la5]
     apply Ord.go_light (i := 9) (by kernel_rfl)
     next => (simp only [la0, la1, la2]; rfl)
     next => rfl
     next => (intro w' hSw; clear hSw; go_simp; first | done | with_reducible rfl)
     simp only [Act.put, la3, la4, la5]
     refine Ord.go_one (i := 11) (by kernel_rfl) (by kernel_rfl) ?_
     apply Ord.go_done1
     next => (simp only [la0, la1, la2]; rfl)
     next => rfl
     intro K hK
     have q0 := ha.cell 0 _ rfl
     have q1 := ha.cell 1 _ rfl
     have q2 := ha.cell 2 _ rfl
     have q3 := ha.cell 3 _ rfl
     have f0 := ha.frozen 0
     have f1 := ha.frozen 1
     have f2 := ha.frozen 2
     have f3 := ha.frozen 3
     have lga := ha.lt
     go_wp2_with fail
     refine hK.out _ _ (below4 (g := ga) _ _ _ _ hb hal) (fun hHeld => ?_)
     replace ha := set4 (.int .i64 (Ty.of 2).k) (.int .i64 (Ty.of 2).lo) (.int .i64 (Ty.of 2).hi) (.string (Ty.of 2).name) ha
     clear hb q0 q1 q2 q3 f0 f1 f2 f3 lga
     have hb := hHeld
     clear hK K
     refine Ord.go_tail ?_; simp only [List.drop_succ_cons, List.drop_zero]
     go_wp2_with fail
     refine ⟨rfl, db, gb, ga, ?_, ha, hb⟩
     simp only [putL, List.append_eq, List.cons_append, List.nil_append, Act.put, la3, la4, la5]
     try rfl
   ·
    apply Ord.go_done1
    next => (simp only [la0, la1, la2]; rfl)
    next => rfl
    intro K hK
    go_wp2_with fail
    obtain ⟨wq2, hx⟩ : ∃ q, wq1.alloc (.cells #[.int .i64 0, .int .i64 0, .int .i64 0, .string ⟨#[]⟩] 36) = q := ⟨_, rfl⟩
    have ha := Aid.Has.new wq1 [.int .i64 0, .int .i64 0, .int .i64 0, .string ⟨#[]⟩] 36
    have hb' := below_new wq1 (.cells #[.int .i64 0, .int .i64 0, .int .i64 0, .string ⟨#[]⟩] 36)
    rw [hx] at ha hb' ⊢
    have hal : W.heap.size ≤ wq1.heap.size := hb.size
    refine hK.out _ _ (hb.trans (hb'.mono hb.size)) (fun hHeld => ?_)
    replace hv := hv.below hb' hv.lt
    replace hd := hd.below hb' hd.lt
    generalize wq1.heap.size = ga at *
    clear hb hb'
    have hb := hHeld
    clear hx
    clear hK K
    try simp only [Act.put, la3, la4, la5]
    refine Ord.go_two (i := 1) (j := 4) (by kernel_rfl) (by kernel_rfl) ?_ ?_
    ·
     apply Ord.go_done1
     next => (simp only [la0, la1, la2]; rfl)
     next => rfl
     intro K hK
     go_wp2_with fail
     refine (body_is _).mono ?_; rintro _ wq3 ⟨rfl, hb'⟩; dsimp only
     refine hK.out _ _ (hb.trans (hb'.mono hb.size)) (fun hHeld => ?_)
     replace hv := hv.below hb' hv.lt
     replace hd := hd.below hb' hd.lt
     replace ha := ha.below hb' ha.lt
     clear hb hb'
     have hb := hHeld
     clear hK K
     try simp only [Act.put, la3, la4, la5]
     refine Ord.go_one (i := 4) (by kernel_rfl) (by kernel_rfl) ?_
     apply Ord.go_done1
     next => (simp only [la0, la1, la2]; rfl)
     next => rfl
     intro K hK
     go_wp2_with fail
     obtain ⟨wq4, hx⟩ : ∃ q, wq3.alloc (.cells #[.int .i64 5, .int .i64 0, .string ⟨#[120]⟩, .string ⟨#[]⟩, .slice none 0 0, .int .i64 1, .int .i64 0, .string ⟨#[]⟩, .string ⟨#[]⟩, .slice none 0 0] 29) = q := ⟨_, rfl⟩
     have hg := Aid.Has.new wq3 [.int .i64 5, .int .i64 0, .string ⟨#[120]⟩, .string ⟨#[]⟩, .slice none 0 0, .int .i64 1, .int .i64 0, .string ⟨#[]⟩, .string ⟨#[]⟩, .slice none 0 0] 29
     have hb' := below_new wq3 (.cells #[.int .i64 5, .int .i64 0, .string ⟨#[120]⟩, .string ⟨#[]⟩, .slice none 0 0, .int .i64 1, .int .i64 0, .string ⟨#[]⟩, .string ⟨#[]⟩, .slice none 0 0] 29)
     rw [hx] at hg hb' ⊢
     refine hK.out _ _ (hb.trans (hb'.mono hb.size)) (fun hHeld => ?_)
     replace hv := hv.below hb' hv.lt
     replace hd := hd.below hb' hd.lt
     replace ha := ha.below hb' ha.lt
     generalize wq3.heap.size = gb at *
     clear hb hb'
     have hb := hHeld
     clear hx
     clear hK K
     try simp only [Act.put, la3, la4, la5]
     apply Ord.go_light (i := 5) (by kernel_rfl)
     next => (simp only [la0, la1, la2]; rfl)
     next => rfl
     next => (intro w' hSw; clear hSw; go_simp; first | done | with_reducible rfl)
     simp only [Act.put, la3, la4, la5]
     refine Ord.go_one (i := 6) (by kernel_rfl) (by kernel_rfl) ?_
     apply Ord.go_done1
     next => (simp only [la0, la1, la2]; rfl)
     next => rfl
     intro K hK
     go_wp2_with fail
     refine (Expr_prog 2 [Ty.oneD vb] (some ⟨db, 0, none⟩) _ 1 0 (Ty.oneD vb) (Ex.lt gb) (Ty.of 2) 0 _ rfl rfl (by simp [Ty.oneD]) (one_at hv hd) (Nat.le_refl _) (exs_lt hg) (exlim_lt gb) (Ex.lt_is vb gb)).mono ?_; rintro _ wq5 ⟨rfl, hb'⟩; dsimp only
     refine hK.out _ _ (hb.trans (hb'.mono hb.size)) (fun hHeld => ?_)
     replace hv := hv.below hb' hv.lt
     replace hd := hd.below hb' hd.lt
     replace hg := hg.below hb' hg.lt
     replace ha := ha.below hb' ha.lt
     clear hb hb'
     have hb := hHeld
     clear hK K
     try simp only [Act.put, la3, la4, la5]
     apply Ord.go_light (i := 7) (by kernel_rfl)
     next => (simp only [la0, la1, la2]; rfl)
     next => rfl
     next => (intro w' hSw; clear hSw; go_simp; first | done | with_reducible rfl)
     simp only [Act.put, la3, la4, la5]
     apply Ord.go_light (i := 8) (by kernel_rfl)
     next => (simp only [la0, la1, la2]; rfl)
     next => rfl
     next => (intro w' hSw; clear hSw; go_simp; first | done | with_reducible rfl)
     simp only [Act.put, la3, la4, la5]
     apply Ord.go_light (i := 9) (by kernel_rfl)
     next => (simp only [la0, la1, la2]; rfl)
     next => rfl
     next => (intro w' hSw; clear hSw; go_simp; first | done | with_reducible rfl)
     simp only [Act.put, la3, la4, la5]
     refine Ord.go_one (i := 11) (by kernel_rfl) (by kernel_rfl) ?_
     apply Ord.go_done1
     next => (simp only [la0, la1, la2]; rfl)
     next => rfl
     intro K hK
     have q0 := ha.cell 0 _ rfl
     have q1 := ha.cell 1 _ rfl
     have q2 := ha.cell 2 _ rfl
     have q3 := ha.cell 3 _ rfl
     have f0 := ha.frozen 0
     have f1 := ha.frozen 1
     have f2 := ha.frozen 2
     have f3 := ha.frozen 3
     have lga := ha.lt
     go_wp2_with fail
     refine hK.out _ _ (below4 (g := ga) _ _ _ _ hb hal) (fun hHeld => ?_)
     replace ha := set4 (.int .i64 (Ty.of 2).k) (.int .i64 (Ty.of 2).lo) (.int .i64 (Ty.of 2).hi) (.string (Ty.of 2).name) ha
     clear hb q0 q1 q2 q3 f0 f1 f2 f3 lga
     have hb := hHeld
     clear hK K
     refine Ord.go_tail ?_; simp only [List.drop_succ_cons, List.drop_zero]
     go_wp2_with fail
     refine ⟨rfl, db, gb, ga, ?_, ha, hb⟩
     simp only [putL, List.append_eq, List.cons_append, List.nil_append, Act.put, la3, la4, la5]
     try rfl
    ·
     apply Ord.go_done1
     next => (simp only [la0, la1, la2]; rfl)
     next => rfl
     intro K hK
     go_wp2_with fail
     obtain ⟨wq3, hx⟩ : ∃ q, wq2.alloc (.cells #[.int .i64 5, .int .i64 0, .string ⟨#[120]⟩, .string ⟨#[]⟩, .slice none 0 0, .int .i64 1, .int .i64 0, .string ⟨#[]⟩, .string ⟨#[]⟩, .slice none 0 0] 29) = q := ⟨_, rfl⟩
     have hg := Aid.Has.new wq2 [.int .i64 5, .int .i64 0, .string ⟨#[120]⟩, .string ⟨#[]⟩, .slice none 0 0, .int .i64 1, .int .i64 0, .string ⟨#[]⟩, .string ⟨#[]⟩, .slice none 0 0] 29
     have hb' := below_new wq2 (.cells #[.int .i64 5, .int .i64 0, .string ⟨#[120]⟩, .string ⟨#[]⟩, .slice none 0 0, .int .i64 1, .int .i64 0, .string ⟨#[]⟩, .string ⟨#[]⟩, .slice none 0 0] 29)
     rw [hx] at hg hb' ⊢
     refine hK.out _ _ (hb.trans (hb'.mono hb.size)) (fun hHeld => ?_)
     replace hv := hv.below hb' hv.lt
     replace hd := hd.below hb' hd.lt
     replace ha := ha.below hb' ha.lt
     generalize wq2.heap.size = gb at *
     clear hb hb'
     have hb := hHeld
     clear hx
     clear hK K
     try simp only [Act.put, la3, la4, la5]
     apply Ord.go_light (i := 5) (by kernel_rfl)
     next => (simp only [la0, la1, la2]; rfl)
     next => rfl
     next => (intro w' hSw; clear hSw; go_simp; first | done | with_reducible rfl)
     simp only [Act.put, la3, la4, la5]
     refine Ord.go_one (i := 1) (by kernel_rfl) (by kernel_rfl) ?_
     apply Ord.go_done1
     next => (simp only [la0, la1, la2]; rfl)
     next => rfl
     intro K hK
     go_wp2_with fail
     refine (body_is _).mono ?_; rintro _ wq4 ⟨rfl, hb'⟩; dsimp only
     refine hK.out _ _ (hb.trans (hb'.mono hb.size)) (fun hHeld => ?_)
     replace hv := hv.below hb' hv.lt
     replace hd := hd.below hb' hd.lt
     replace hg := hg.below hb' hg.lt
     replace ha := ha.below hb' ha.lt
     clear hb hb'
     have hb := hHeld
     clear hK K
     try simp only [Act.put, la3, la4, la5]
     refine Ord.go_one (i := 6) (by kernel_rfl) (by kernel_rfl) ?_
     apply Ord.go_done1
     next => (simp only [la0, la1, la2]; rfl)
     next => rfl
     intro K hK
     go_wp2_with fail
     refine (Expr_prog 2 [Ty.oneD vb] (some ⟨db, 0, none⟩) _ 1 0 (Ty.oneD vb) (Ex.lt gb) (Ty.of 2) 0 _ rfl rfl (by simp [Ty.oneD]) (one_at hv hd) (Nat.le_refl _) (exs_lt hg) (exlim_lt gb) (Ex.lt_is vb gb)).mono ?_; rintro _ wq5 ⟨rfl, hb'⟩; dsimp only
     refine hK.out _ _ (hb.trans (hb'.mono hb.size)) (fun hHeld => ?_)
     replace hv := hv.below hb' hv.lt
     replace hd := hd.below hb' hd.lt
     replace hg := hg.below hb' hg.lt
     replace ha := ha.below hb' ha.lt
     clear hb hb'
     have hb := hHeld
     clear hK K
     try simp only [Act.put, la3, la4, la5]
     apply Ord.go_light (i := 7) (by kernel_rfl)
     next => (simp only [la0, la1, la2]; rfl)
     next => rfl
     next => (intro w' hSw; clear hSw; go_simp; first | done | with_reducible rfl)
     simp only [Act.put, la3, la4, la5]
     apply Ord.go_light (i := 8) (by kernel_rfl)
     next => (simp only [la0, la1, la2]; rfl)
     next => rfl
     next => (intro w' hSw; clear hSw; go_simp; first | done | with_reducible rfl)
     simp only [Act.put, la3, la4, la5]
     apply Ord.go_light (i := 9) (by kernel_rfl)
     next => (simp only [la0, la1, la2]; rfl)
     next => rfl
     next => (intro w' hSw; clear hSw; go_simp; first | done | with_reducible rfl)
     simp only [Act.put, la3, la4, la5]
     refine Ord.go_one (i := 11) (by kernel_rfl) (by kernel_rfl) ?_
     apply Ord.go_done1
     next => (simp only [la0, la1, la2]; rfl)
     next => rfl
     intro K hK
     have q0 := ha.cell 0 _ rfl
     have q1 := ha.cell 1 _ rfl
     have q2 := ha.cell 2 _ rfl
     have q3 := ha.cell 3 _ rfl
     have f0 := ha.frozen 0
     have f1 := ha.frozen 1
     have f2 := ha.frozen 2
     have f3 := ha.frozen 3
     have lga := ha.lt
     go_wp2_with fail
     refine hK.out _ _ (below4 (g := ga) _ _ _ _ hb hal) (fun hHeld => ?_)
     replace ha := set4 (.int .i64 (Ty.of 2).k) (.int .i64 (Ty.of 2).lo) (.int .i64 (Ty.of 2).hi) (.string (Ty.of 2).name) ha
     clear hb q0 q1 q2 q3 f0 f1 f2 f3 lga
     have hb := hHeld
     clear hK K
     refine Ord.go_tail ?_; simp only [List.drop_succ_cons, List.drop_zero]
     go_wp2_with fail
     refine ⟨rfl, db, gb, ga, ?_, ha, hb⟩
     simp only [putL, List.append_eq, List.cons_append, List.nil_append, Act.put, la3, la4, la5]
     try rfl
  ·
   apply Ord.go_done1
   next => (simp only [la0, la1, la2]; rfl)
   next => rfl
   intro K hK
   go_wp2_with fail
   obtain ⟨wq1, hx⟩ : ∃ q, wd0.alloc (.cells #[.int .i64 5, .int .i64 0, .string ⟨#[120]⟩, .string ⟨#[]⟩, .slice none 0 0, .int .i64 1, .int .i64 0, .string ⟨#[]⟩, .string ⟨#[]⟩, .slice none 0 0] 29) = q := ⟨_, rfl⟩
   have hg := Aid.Has.new wd0 [.int .i64 5, .int .i64 0, .string ⟨#[120]⟩, .string ⟨#[]⟩, .slice none 0 0, .int .i64 1, .int .i64 0, .string ⟨#[]⟩, .string ⟨#[]⟩, .slice none 0 0] 29
   have hb' := below_new wd0 (.cells #[.int .i64 5, .int .i64 0, .string ⟨#[120]⟩, .string ⟨#[]⟩, .slice none 0 0, .int .i64 1, .int .i64 0, .string ⟨#[]⟩, .string ⟨#[]⟩, .slice none 0 0] 29)
   rw [hx] at hg hb' ⊢
   refine hK.out _ _ (hb.trans (hb'.mono hb.size)) (fun hHeld => ?_)
   generalize wd0.heap.size = gb at *
   clear hb hb'
   have hb := hHeld
   clear hx
   clear hK K
   try simp only [Act.put, la3, la4, la5]
   apply Ord.go_light (i := 5) (by kernel_rfl)
   next => (simp only [la0, la1, la2]; rfl)
   next => rfl
   next => (intro w' hSw; clear hSw; go_simp; first | done | with_reducible rfl)
   simp only [Act.put, la3, la4, la5]
   refine Ord.go_two (i := 0) (j := 10) (by kernel_rfl) (by kernel_rfl) ?_ ?_
   ·
    apply Ord.go_done1
    next => (simp only [List.getElem?_toArray, List.getElem?_cons_zero]; rfl)
    next => rfl
    intro K hK
    go_wp2_with fail
    refine (one_is _).mono ?_; rintro _ wq2 ⟨vb, db, rfl, hv, hd, hb'⟩; dsimp only
    refine hK.out _ _ (hb.trans (hb'.mono hb.size)) (fun hHeld => ?_)
    replace hg := hg.below hb' hg.lt
    clear hb hb'
    have hb := hHeld
    clear hK K
    try simp only [Act.put, la3, la4, la5]
    refine Ord.go_two (i := 1) (j := 10) (by kernel_rfl) (by kernel_rfl) ?_ ?_
    ·
     apply Ord.go_done1
     next => (simp only [la0, la1, la2]; rfl)
     next => rfl
     intro K hK
     go_wp2_with fail
     refine (body_is _).mono ?_; rintro _ wq3 ⟨rfl, hb'⟩; dsimp only
     refine hK.out _ _ (hb.trans (hb'.mono hb.size)) (fun hHeld => ?_)
     replace hv := hv.below hb' hv.lt
     replace hd := hd.below hb' hd.lt
     replace hg := hg.below hb' hg.lt
     clear hb hb'
     have hb := hHeld
     clear hK K
     try simp only [Act.put, la3, la4, la5]
     refine Ord.go_two (i := 6) (j := 10) (by kernel_rfl) (by kernel_rfl) ?_ ?_
     ·
      apply Ord.go_done1
      next => (simp only [la0, la1, la2]; rfl)
      next => rfl
      intro K hK
      go_wp2_with fail
      refine (Expr_prog 2 [Ty.oneD vb] (some ⟨db, 0, none⟩) _ 1 0 (Ty.oneD vb) (Ex.lt gb) (Ty.of 2) 0 _ rfl rfl (by simp [Ty.oneD]) (one_at hv hd) (Nat.le_refl _) (exs_lt hg) (exlim_lt gb) (Ex.lt_is vb gb)).mono ?_; rintro _ wq4 ⟨rfl, hb'⟩; dsimp only
      refine hK.out _ _ (hb.trans (hb'.mono hb.size)) (fun hHeld => ?_)
      replace hv := hv.below hb' hv.lt
      replace hd := hd.below hb' hd.lt
      replace hg := hg.below hb' hg.lt
      clear hb hb'
      have hb := hHeld
      clear hK K
      try simp only [Act.put, la3, la4, la5]
      apply Ord.go_light (i := 7) (by kernel_rfl)
      next => (simp only [la0, la1, la2]; rfl)
      next => rfl
      next => (intro w' hSw; clear hSw; go_simp; first | done | with_reducible rfl)
      simp only [Act.put, la3, la4, la5]
      apply Ord.go_light (i := 8) (by kernel_rfl)
      next => (simp only [la0, la1, la2]; rfl)
      next => rfl
      next => (intro w' hSw; clear hSw; go_simp; first | done | with_reducible rfl)
      simp only [Act.put, la3, la4, la5]
      apply Ord.go_light (i := 9) (by kernel_rfl)
      next => (simp only [la0, la1, la2]; rfl)
      next => rfl
      next => (intro w' hSw; clear hSw; go_simp; first | done | with_reducible rfl)
      simp only [Act.put, la3, la4, la5]
      refine Ord.go_one (i := 10) (by kernel_rfl) (by kernel_rfl) ?_
      apply Ord.go_done1
      next => (simp only [la0, la1, la2]; rfl)
      next => rfl
      intro K hK
      go_wp2_with fail
      obtain ⟨wq5, hx⟩ : ∃ q, wq4.alloc (.cells #[.int .i64 0, .int .i64 0, .int .i64 0, .string ⟨#[]⟩] 36) = q := ⟨_, rfl⟩
      have ha := Aid.Has.new wq4 [.int .i64 0, .int .i64 0, .int .i64 0, .string ⟨#[]⟩] 36
      have hb' := below_new wq4 (.cells #[.int .i64 0, .int .i64 0, .int .i64 0, .string ⟨#[]⟩] 36)
      rw [hx] at ha hb' ⊢
      have hal : W.heap.size ≤ wq4.heap.size := hb.size
      refine hK.out _ _ (hb.trans (hb'.mono hb.size)) (fun hHeld => ?_)
      replace hv := hv.below hb' hv.lt
      replace hd := hd.below hb' hd.lt
      replace hg := hg.below hb' hg.lt
      generalize wq4.heap.size = ga at *
      clear hb hb'
      have hb := hHeld
      clear hx
      clear hK K
      try simp only [Act.put, la3, la4, la5]
      refine Ord.go_one (i := 11) (by kernel_rfl) (by kernel_rfl) ?_
      apply Ord.go_done1
      next => (simp only [la0, la1, la2]; rfl)
      next => rfl
      intro K hK
      have q0 := ha.cell 0 _ rfl
      have q1 := ha.cell 1 _ rfl
      have q2 := ha.cell 2 _ rfl
      have q3 := ha.cell 3 _ rfl
      have f0 := ha.frozen 0
      have f1 := ha.frozen 1
      have f2 := ha.frozen 2
      have f3 := ha.frozen 3
      have lga := ha.lt
      go_wp2_with fail
      refine hK.out _ _ (below4 (g := ga) _ _ _ _ hb hal) (fun hHeld => ?_)
      replace ha := set4 (.int .i64 (Ty.of 2).k) (.int .i64 (Ty.of 2).lo) (.int .i64 (Ty.of 2).hi) (.string (Ty.of 2).name) ha
      clear hb q0 q1 q2 q3 f0 f1 f2 f3 lga
      have hb := hHeld
      clear hK K
      refine Ord.go_tail ?_; simp only [List.drop_succ_cons, List.drop_zero]
      go_wp2_with fail
      refine ⟨rfl, db, gb, ga, ?_, ha, hb⟩
      simp only [putL, List.append_eq, List.cons_append, List.nil_append, Act.put, la3, la4, la5]
      try rfl
     ·
      apply Ord.go_done1
      next => (simp only [la0, la1, la2]; rfl)
      next => rfl
      intro K hK
      go_wp2_with fail
      obtain ⟨wq4, hx⟩ : ∃ q, wq3.alloc (.cells #[.int .i64 0, .int .i64 0, .int .i64 0, .string ⟨#[]⟩] 36) = q := ⟨_, rfl⟩
      have ha := Aid.Has.new wq3 [.int .i64 0, .int .i64 0, .int .i64 0, .string ⟨#[]⟩] 36
      have hb' := below_new wq3 (.cells #[.int .i64 0, .int .i64 0, .int .i64 0, .string ⟨#[]⟩] 36)
      rw [hx] at ha hb' ⊢
      have hal : W.heap.size ≤ wq3.heap.size := hb.size
      refine hK.out _ _ (hb.trans (hb'.mono hb.size)) (fun hHeld => ?_)
      replace hv := hv.below hb' hv.lt
      replace hd := hd.below hb' hd.lt
      replace hg := hg.below hb' hg.lt
      generalize wq3.heap.size = ga at *
      clear hb hb'
      have hb := hHeld
      clear hx
      clear hK K
      try simp only [Act.put, la3, la4, la5]
      refine Ord.go_one (i := 6) (by kernel_rfl) (by kernel_rfl) ?_
      apply Ord.go_done1
      next => (simp only [la0, la1, la2]; rfl)
      next => rfl
      intro K hK
      go_wp2_with fail
      refine (Expr_prog 2 [Ty.oneD vb] (some ⟨db, 0, none⟩) _ 1 0 (Ty.oneD vb) (Ex.lt gb) (Ty.of 2) 0 _ rfl rfl (by simp [Ty.oneD]) (one_at hv hd) (Nat.le_refl _) (exs_lt hg) (exlim_lt gb) (Ex.lt_is vb gb)).mono ?_; rintro _ wq5 ⟨rfl, hb'⟩; dsimp only
      refine hK.out _ _ (hb.trans (hb'.mono hb.size)) (fun hHeld => ?_)
      replace hv := hv.below hb' hv.lt
      replace hd := hd.below hb' hd.lt
      replace hg := hg.below hb' hg.lt
      replace ha := ha.below hb' ha.lt
      clear hb hb'
      have hb := hHeld
      clear hK K
      try simp only [Act.put, la3, la4, la5]
      apply Ord.go_light (i := 7) (by kernel_rfl)
      next => (simp only [la0, la1, la2]; rfl)
      next => rfl
      next => (intro w' hSw; clear hSw; go_simp; first | done | with_reducible rfl)
      simp only [Act.put, la3, la4, la5]
      apply Ord.go_light (i := 8) (by kernel_rfl)
      next => (simp only [la0, la1, la2]; rfl)
      next => rfl
      next => (intro w' hSw; clear hSw; go_simp; first | done | with_reducible rfl)
      simp only [Act.put, la3, la4, la5]
      apply Ord.go_light (i := 9) (by kernel_rfl)
      next => (simp only [la0, la1, la2]; rfl)
      next => rfl
      next => (intro w' hSw; clear hSw; go_simp; first | done | with_reducible rfl)
      simp only [Act.put, la3, la4, la5]
      refine Ord.go_one (i := 11) (by kernel_rfl) (by kernel_rfl) ?_
      apply Ord.go_done1
      next => (simp only [la0, la1, la2]; rfl)
      next => rfl
      intro K hK
      have q0 := ha.cell 0 _ rfl
      have q1 := ha.cell 1 _ rfl
      have q2 := ha.cell 2 _ rfl
      have q3 := ha.cell 3 _ rfl
      have f0 := ha.frozen 0
      have f1 := ha.frozen 1
      have f2 := ha.frozen 2
      have f3 := ha.frozen 3
      have lga := ha.lt
      go_wp2_with fail
      refine hK.out _ _ (below4 (g := ga) _ _ _ _ hb hal) (fun hHeld => ?_)
      replace ha := set4 (.int .i64 (Ty.of 2).k) (.int .i64 (Ty.of 2).lo) (.int .i64 (Ty.of 2).hi) (.string (Ty.of 2).name) ha
      clear hb q0 q1 q2 q3 f0 f1 f2 f3 lga
      have hb := hHeld
      clear hK K
      refine Ord.go_tail ?_; simp only [List.drop_succ_cons, List.drop_zero]
      go_wp2_with fail
      refine ⟨rfl, db, gb, ga, ?_, ha, hb⟩
      simp only [putL, List.append_eq, List.cons_append, List.nil_append, Act.put, la3, la4, la5]
      try rfl
    ·
     apply Ord.go_done1
     next => (simp only [la0, la1, la2]; rfl)
     next => rfl
     intro K hK
     go_wp2_with fail
     obtain ⟨wq3, hx⟩ : ∃ q, wq2.alloc (.cells #[.int .i64 0, .int .i64 0, .int .i64 0, .string ⟨#[]⟩] 36) = q := ⟨_, rfl⟩
     have ha := Aid.Has.new wq2 [.int .i64 0, .int .i64 0, .int .i64 0, .string ⟨#[]⟩] 36
     have hb' := below_new wq2 (.cells #[.int .i64 0, .int .i64 0, .int .i64 0, .string ⟨#[]⟩] 36)
     rw [hx] at ha hb' ⊢
     have hal : W.heap.size ≤ wq2.heap.size := hb.size
     refine hK.out _ _ (hb.trans (hb'.mono hb.size)) (fun hHeld => ?_)
     replace hv := hv.below hb' hv.lt
     replace hd := hd.below hb' hd.lt
     replace hg := hg.below hb' hg.lt
     generalize wq2.heap.size = ga at *
     clear hb hb'
     have hb := hHeld
     clear hx
     clear hK K
     try simp only [Act.put, la3, la4, la5]
     refine Ord.go_one (i := 1) (by kernel_rfl) (by kernel_rfl) ?_
     apply Ord.go_done1
     next => (simp only [la0, la1, la2]; rfl)
     next => rfl
     intro K hK
     go_wp2_with fail
     refine (body_is _).mono ?_; rintro _ wq4 ⟨rfl, hb'⟩; dsimp only
     refine hK.out _ _ (hb.trans (hb'.mono hb.size)) (fun hHeld => ?_)
     replace hv := hv.below hb' hv.lt
     replace hd := hd.below hb' hd.lt
     replace hg := hg.below hb' hg.lt
     replace ha := ha.below hb' ha.lt
     clear hb hb'
     have hb := hHeld
     clear hK K
     try simp only [Act.put, la3, la4, la5]
     refine Ord.go_one (i := 6) (by kernel_rfl) (by kernel_rfl) ?_
     apply Ord.go_done1
     next => (simp only [la0, la1, la2]; rfl)
     next => rfl
     intro K hK
     go_wp2_with fail
     refine (Expr_prog 2 [Ty.oneD vb] (some ⟨db, 0, none⟩) _ 1 0 (Ty.oneD vb) (Ex.lt gb) (Ty.of 2) 0 _ rfl rfl (by simp [Ty.oneD]) (one_at hv hd) (Nat.le_refl _) (exs_lt hg) (exlim_lt gb) (Ex.lt_is vb gb)).mono ?_; rintro _ wq5 ⟨rfl, hb'⟩; dsimp only
     refine hK.out _ _ (hb.trans (hb'.mono hb.size)) (fun hHeld => ?_)
     replace hv := hv.below hb' hv.lt
     replace hd := hd.below hb' hd.lt
     replace hg := hg.below hb' hg.lt
     replace ha := ha.below hb' ha.lt
     clear hb hb'
     have hb := hHeld
     clear hK K
     try simp only [Act.put, la3, la4, la5]
     apply Ord.go_light (i := 7) (by kernel_rfl)
     next => (simp only [la0, la1, la2]; rfl)
     next => rfl
     next => (intro w' hSw; clear hSw; go_simp; first | done | with_reducible rfl)
     simp only [Act.put, la3, la4, la5]
     apply Ord.go_light (i := 8) (by kernel_rfl)
     next => (simp only [la0, la1, la2]; rfl)
     next => rfl
     next => (intro w' hSw; clear hSw; go_simp; first | done | with_reducible rfl)
     simp only [Act.put, la3, la4, la5]
     apply Ord.go_light (i := 9) (by kernel_rfl)
     next => (simp only [la0, la1, la2]; rfl)
     next => rfl
     next => (intro w' hSw; clear hSw; go_simp; first | done | with_reducible rfl)
     simp only [Act.put, la3, la4, la5]
     refine Ord.go_one (i := 11) (by kernel_rfl) (by kernel_rfl) ?_
     apply Ord.go_done1
     next => (simp only [la0, la1, la2]; rfl)
     next => rfl
     intro K hK
     have q0 := ha.cell 0 _ rfl
     have q1 := ha.cell 1 _ rfl
     have q2 := ha.cell 2 _ rfl
     have q3 := ha.cell 3 _ rfl
     have f0 := ha.frozen 0
     have f1 := ha.frozen 1
     have f2 := ha.frozen 2
     have f3 := ha.frozen 3
     have lga := ha.lt
     go_wp2_with fail
     refine hK.out _ _ (below4 (g := ga) _ _ _ _ hb hal) (fun hHeld => ?_)
     replace ha := set4 (.int .i64 (Ty.of 2).k) (.int .i64 (Ty.of 2).lo) (.int .i64 (Ty.of 2).hi) (.string (Ty.of 2).name) ha
     clear hb q0 q1 q2 q3 f0 f1 f2 f3 lga
     have hb := hHeld
     clear hK K
     refine Ord.go_tail ?_; simp only [List.drop_succ_cons, List.drop_zero]
     go_wp2_with fail
     refine ⟨rfl, db, gb, ga, ?_, ha, hb⟩
     simp only [putL, List.append_eq, List.cons_append, List.nil_append, Act.put, la3, la4, la5]
     try rfl
   ·
    apply Ord.go_done1
    next => (simp only [la0, la1, la2]; rfl)
    next => rfl
    intro K hK
    go_wp2_with fail
    obtain ⟨wq2, hx⟩ : ∃ q, wq1.alloc (.cells #[.int .i64 0, .int .i64 0, .int .i64 0, .string ⟨#[]⟩] 36) = q := ⟨_, rfl⟩
    have ha := Aid.Has.new wq1 [.int .i64 0, .int .i64 0, .int .i64 0, .string ⟨#[]⟩] 36
    have hb' := below_new wq1 (.cells #[.int .i64 0, .int .i64 0, .int .i64 0, .string ⟨#[]⟩] 36)
    rw [hx] at ha hb' ⊢
    have hal : W.heap.size ≤ wq1.heap.size := hb.size
    refine hK.out _ _ (hb.trans (hb'.mono hb.size)) (fun hHeld => ?_)
    replace hg := hg.below hb' hg.lt
    generalize wq1.heap.size = ga at *
    clear hb hb'
    have hb := hHeld
    clear hx
    clear hK K
    try simp only [Act.put, la3, la4, la5]
    refine Ord.go_one (i := 0) (by kernel_rfl) (by kernel_rfl) ?_
    apply Ord.go_done1
    next => (simp only [List.getElem?_toArray, List.getElem?_cons_zero]; rfl)
    next => rfl
    intro K hK
    go_wp2_with fail
    refine (one_is _).mono ?_; rintro _ wq3 ⟨vb, db, rfl, hv, hd, hb'⟩; dsimp only
    refine hK.out _ _ (hb.trans (hb'.mono hb.size)) (fun hHeld => ?_)
    replace hg := hg.below hb' hg.lt
    replace ha := ha.below hb' ha.lt
    clear hb hb'
    have hb := hHeld
    clear hK K
    try simp only [Act.put, la3, la4, la5]
    refine Ord.go_one (i := 1) (by kernel_rfl) (by kernel_rfl) ?_
    apply Ord.go_done1
    next => (simp only [la0, la1, la2]; rfl)
    next => rfl
    intro K hK
    go_wp2_with fail
    refine (body_is _).mono ?_; rintro _ wq4 ⟨rfl, hb'⟩; dsimp only
    refine hK.out _ _ (hb.trans (hb'.mono hb.size)) (fun hHeld => ?_)
    replace hv := hv.below hb' hv.lt
    replace hd := hd.below hb' hd.lt
    replace hg := hg.below hb' hg.lt
    replace ha := ha.below hb' ha.lt
    clear hb hb'
    have hb := hHeld
    clear hK K
    try simp only [Act.put, la3, la4, la5]
    refine Ord.go_one (i := 6) (by kernel_rfl) (by kernel_rfl) ?_
    apply Ord.go_done1
    next => (simp only [la0, la1, la2]; rfl)
    next => rfl
    intro K hK
    go_wp2_with fail
    refine (Expr_prog 2 [Ty.oneD vb] (some ⟨db, 0, none⟩) _ 1 0 (Ty.oneD vb) (Ex.lt gb) (Ty.of 2) 0 _ rfl rfl (by simp [Ty.oneD]) (one_at hv hd) (Nat.le_refl _) (exs_lt hg) (exlim_lt gb) (Ex.lt_is vb gb)).mono ?_; rintro _ wq5 ⟨rfl, hb'⟩; dsimp only
    refine hK.out _ _ (hb.trans (hb'.mono hb.size)) (fun hHeld => ?_)
    replace hv := hv.below hb' hv.lt
    replace hd := hd.below hb' hd.lt
    replace hg := hg.below hb' hg.lt
    replace ha := ha.below hb' ha.lt
    clear hb hb'
    have hb := hHeld
    clear hK K
    try simp only [Act.put, la3, la4, la5]
    apply Ord.go_light (i := 7) (by kernel_rfl)
    next => (simp only [la0, la1, la2]; rfl)
    next => rfl
    next => (intro w' hSw; clear hSw; go_simp; first | done | with_reducible rfl)
    simp only [Act.put, la3, la4, la5]
    apply Ord.go_light (i := 8) (by kernel_rfl)
    next => (simp only [la0, la1, la2]; rfl)
    next => rfl
    next => (intro w' hSw; clear hSw; go_simp; first | done | with_reducible rfl)
    simp only [Act.put, la3, la4, la5]
    apply Ord.go_light (i := 9) (by kernel_rfl)
    next => (simp only [la0, la1, la2]; rfl)
    next => rfl
    next => (intro w' hSw; clear hSw; go_simp; first | done | with_reducible rfl)
    simp only [Act.put, la3, la4, la5]
    refine Ord.go_one (i := 11) (by kernel_rfl) (by kernel_rfl) ?_
    apply Ord.go_done1
    next => (simp only [la0, la1, la2]; rfl)
    next => rfl
    intro K hK
    have q0 := ha.cell 0 _ rfl
    have q1 := ha.cell 1 _ rfl
    have q2 := ha.cell 2 _ rfl
    have q3 := ha.cell 3 _ rfl
    have f0 := ha.frozen 0
    have f1 := ha.frozen 1
    have f2 := ha.frozen 2
    have f3 := ha.frozen 3
    have lga := ha.lt
    go_wp2_with fail
    refine hK.out _ _ (below4 (g := ga) _ _ _ _ hb hal) (fun hHeld => ?_)
    replace ha := set4 (.int .i64 (Ty.of 2).k) (.int .i64 (Ty.of 2).lo) (.int .i64 (Ty.of 2).hi) (.string (Ty.of 2).name) ha
    clear hb q0 q1 q2 q3 f0 f1 f2 f3 lga
    have hb := hHeld
    clear hK K
    refine Ord.go_tail ?_; simp only [List.drop_succ_cons, List.drop_zero]
    go_wp2_with fail
    refine ⟨rfl, db, gb, ga, ?_, ha, hb⟩
    simp only [putL, List.append_eq, List.cons_append, List.nil_append, Act.put, la3, la4, la5]
    try rfl
  ·
   apply Ord.go_done1
   next => (simp only [la0, la1, la2]; rfl)
   next => rfl
   intro K hK
   go_wp2_with fail
   obtain ⟨wq1, hx⟩ : ∃ q, wd0.alloc (.cells #[.int .i64 0, .int .i64 0, .int .i64 0, .string ⟨#[]⟩] 36) = q := ⟨_, rfl⟩
   have ha := Aid.Has.new wd0 [.int .i64 0, .int .i64 0, .int .i64 0, .string ⟨#[]⟩] 36
   have hb' := below_new wd0 (.cells #[.int .i64 0, .int .i64 0, .int .i64 0, .string ⟨#[]⟩] 36)
   rw [hx] at ha hb' ⊢
   have hal : W.heap.size ≤ wd0.heap.size := hb.size
   refine hK.out _ _ (hb.trans (hb'.mono hb.size)) (fun hHeld => ?_)
   generalize wd0.heap.size = ga at *
   clear hb hb'
   have hb := hHeld
   clear hx
   clear hK K
   try simp only [Act.put, la3, la4, la5]
   refine Ord.go_two (i := 0) (j := 4) (by kernel_rfl) (by kernel_rfl) ?_ ?_
   ·
    apply Ord.go_done1
    next => (simp only [List.getElem?_toArray, List.getElem?_cons_zero]; rfl)
    next => rfl
    intro K hK
    go_wp2_with fail
    refine (one_is _).mono ?_; rintro _ wq2 ⟨vb, db, rfl, hv, hd, hb'⟩; dsimp only
    refine hK.out _ _ (hb.trans (hb'.mono hb.size)) (fun hHeld => ?_)
    replace ha := ha.below hb' ha.lt
    clear hb hb'
    have hb := hHeld
    clear hK K
    try simp only [Act.put, la3, la4, la5]
    refine Ord.go_two (i := 1) (j := 4) (by kernel_rfl) (by kernel_rfl) ?_ ?_
    ·
     apply Ord.go_done1
     next => (simp only [la0, la1, la2]; rfl)
     next => rfl
     intro K hK
     go_wp2_with fail
     refine (body_is _).mono ?_; rintro _ wq3 ⟨rfl, hb'⟩; dsimp only
     refine hK.out _ _ (hb.trans (hb'.mono hb.size)) (fun hHeld => ?_)
     replace hv := hv.below hb' hv.lt
     replace hd := hd.below hb' hd.lt
     replace ha := ha.below hb' ha.lt
     clear hb hb'
     have hb := hHeld
     clear hK K
     try simp only [Act.put, la3, la4, la5]
     refine Ord.go_one (i := 4) (by kernel_rfl) (by kernel_rfl) ?_
     apply Ord.go_done1
     next => (simp only [la0, la1, la2]; rfl)
     next => rfl
     intro K hK
     go_wp2_with fail
     obtain ⟨wq4, hx⟩ : ∃ q, wq3.alloc (.cells #[.int .i64 5, .int .i64 0, .string ⟨#[120]⟩, .string ⟨#[]⟩, .slice none 0 0, .int .i64 1, .int .i64 0, .string ⟨#[]⟩, .string ⟨#[]⟩, .slice none 0 0] 29) = q := ⟨_, rfl⟩
     have hg := Aid.Has.new wq3 [.int .i64 5, .int .i64 0, .string ⟨#[120]⟩, .string ⟨#[]⟩, .slice none 0 0, .int .i64 1, .int .i64 0, .string ⟨#[]⟩, .string ⟨#[]⟩, .slice none 0 0] 29
     have hb' := below_new wq3 (.cells #[.int .i64 5, .int .i64 0, .string ⟨#[120]⟩, .string ⟨#[]⟩, .slice none 0 0, .int .i64 1, .int .i64 0, .string ⟨#[]⟩, .string ⟨#[]⟩, .slice none 0 0] 29)
     rw [hx] at hg hb' ⊢
     refine hK.out _ _ (hb.trans (hb'.mono hb.size)) (fun hHeld => ?_)
     replace hv := hv.below hb' hv.lt
     replace hd := hd.below hb' hd.lt
     replace ha := ha.below hb' ha.lt
     generalize wq3.heap.size = gb at *
     clear hb hb'
     have hb := hHeld
     clear hx
     clear hK K
     try simp only [Act.put, la3, la4, la5]
     apply Ord.go_light (i := 5) (by kernel_rfl)
     next => (simp only [la0, la1, la2]; rfl)
     next => rfl
     next => (intro w' hSw; clear hSw; go_simp; first | done | with_reducible rfl)
     simp only [Act.put, la3, la4, la5]
     refine Ord.go_one (i := 6) (by kernel_rfl) (by kernel_rfl) ?_
     apply Ord.go_done1
     next => (simp only [la0, la1, la2]; rfl)
     next => rfl
     intro K hK
     go_wp2_with fail
     refine (Expr_prog 2 [Ty.oneD vb] (some ⟨db, 0, none⟩) _ 1 0 (Ty.oneD vb) (Ex.lt gb) (Ty.of 2) 0 _ rfl rfl (by simp [Ty.oneD]) (one_at hv hd) (Nat.le_refl _) (exs_lt hg) (exlim_lt gb) (Ex.lt_is vb gb)).mono ?_; rintro _ wq5 ⟨rfl, hb'⟩; dsimp only
     refine hK.out _ _ (hb.trans (hb'.mono hb.size)) (fun hHeld => ?_)
     replace hv := hv.below hb' hv.lt
     replace hd := hd.below hb' hd.lt
     replace hg := hg.below hb' hg.lt
     replace ha := ha.below hb' ha.lt
     clear hb hb'
     have hb := hHeld
     clear hK K
     try simp only [Act.put, la3, la4, la5]
     apply Ord.go_light (i := 7) (by kernel_rfl)
     next => (simp only [la0, la1, la2]; rfl)
     next => rfl
     next => (intro w' hSw; clear hSw; go_simp; first | done | with_reducible rfl)
     simp only [Act.put, la3, la4, la5]
     apply Ord.go_light (i := 8) (by kernel_rfl)
     next => (simp only [la0, la1, la2]; rfl)
     next => rfl
     next => (intro w' hSw; clear hSw; go_simp; first | done | with_reducible rfl)
     simp only [Act.put, la3, la4, la5]
     apply Ord.go_light (i := 9) (by kernel_rfl)
     next => (simp only [la0, la1, la2]; rfl)
     next => rfl
     next => (intro w' hSw; clear hSw; go_simp; first | done | with_reducible rfl)
     simp only [Act.put, la3, la4, la5]
     refine Ord.go_one (i := 11) (by kernel_rfl) (by kernel_rfl) ?_
     apply Ord.go_done1
     next => (simp only [la0, la1, la2]; rfl)
     next => rfl
     intro K hK
     have q0 := ha.cell 0 _ rfl
     have q1 := ha.cell 1 _ rfl
     have q2 := ha.cell 2 _ rfl
     have q3 := ha.cell 3 _ rfl
     have f0 := ha.frozen 0
     have f1 := ha.frozen 1
     have f2 := ha.frozen 2
     have f3 := ha.frozen 3
     have lga := ha.lt
     go_wp2_with fail
     refine hK.out _ _ (below4 (g := ga) _ _ _ _ hb hal) (fun hHeld => ?_)
     replace ha := set4 (.int .i64 (Ty.of 2).k) (.int .i64 (Ty.of 2).lo) (.int .i64 (Ty.of 2).hi) (.string (Ty.of 2).name) ha
     clear hb q0 q1 q2 q3 f0 f1 f2 f3 lga
     have hb := hHeld
     clear hK K
     refine Ord.go_tail ?_; simp only [List.drop_succ_cons, List.drop_zero]
     go_wp2_with fail
     refine ⟨rfl, db, gb, ga, ?_, ha, hb⟩
     simp only [putL, List.append_eq, List.cons_append, List.nil_append, Act.put, la3, la4, la5]
     try rfl
    ·
     apply Ord.go_done1
     next => (simp only [la0, la1, la2]; rfl)
     next => rfl
     intro K hK
     go_wp2_with fail
     obtain ⟨wq3, hx⟩ : ∃ q, wq2.alloc (.cells #[.int .i64 5, .int .i64 0, .string ⟨#[120]⟩, .string ⟨#[]⟩, .slice none 0 0, .int .i64 1, .int .i64 0, .string ⟨#[]⟩, .string ⟨#[]⟩, .slice none 0 0] 29) = q := ⟨_, rfl⟩
     have hg := Aid.Has.new wq2 [.int .i64 5, .int .i64 0, .string ⟨#[120]⟩, .string ⟨#[]⟩, .slice none 0 0, .int .i64 1, .int .i64 0, .string ⟨#[]⟩, .string ⟨#[]⟩, .slice none 0 0] 29
     have hb' := below_new wq2 (.cells #[.int .i64 5, .int .i64 0, .string ⟨#[120]⟩, .string ⟨#[]⟩, .slice none 0 0, .int .i64 1, .int .i64 0, .string ⟨#[]⟩, .string ⟨#[]⟩, .slice none 0 0] 29)
     rw [hx] at hg hb' ⊢
     refine hK.out _ _ (hb.trans (hb'.mono hb.size)) (fun hHeld => ?_)
     replace hv := hv.below hb' hv.lt
     replace hd := hd.below hb' hd.lt
     replace ha := ha.below hb' ha.lt
     generalize wq2.heap.size = gb at *
     clear hb hb'
     have hb := hHeld
     clear hx
     clear hK K
     try simp only [Act.put, la3, la4, la5]
     apply Ord.go_light (i := 5) (by kernel_rfl)
     next => (simp only [la0, la1, la2]; rfl)
     next => rfl
     next => (intro w' hSw; clear hSw; go_simp; first | done | with_reducible rfl)
     simp only [Act.put, la3, la4, la5]
     refine Ord.go_one (i := 1) (by kernel_rfl) (by kernel_rfl) ?_
     apply Ord.go_done1
     next => (simp only [la0, la1, la2]; rfl)
     next => rfl
     intro K hK
     go_wp2_with fail
     refine (body_is _).mono ?_; rintro _ wq4 ⟨rfl, hb'⟩; dsimp only
     refine hK.out _ _ (hb.trans (hb'.mono hb.size)) (fun hHeld => ?_)
     replace hv := hv.below hb' hv.lt
     replace hd := hd.below hb' hd.lt
     replace hg := hg.below hb' hg.lt
     replace ha := ha.below hb' ha.lt
     clear hb hb'
     have hb := hHeld
     clear hK K
     try simp only [Act.put, la3, la4, la5]
     refine Ord.go_one (i := 6) (by kernel_rfl) (by kernel_rfl) ?_
     apply Ord.go_done1
     next => (simp only [la0, la1, la2]; rfl)
     next => rfl
     intro K hK
     go_wp2_with fail
     refine (Expr_prog 2 [Ty.oneD vb] (some ⟨db, 0, none⟩) _ 1 0 (Ty.oneD vb) (Ex.lt gb) (Ty.of 2) 0 _ rfl rfl (by simp [Ty.oneD]) (one_at hv hd) (Nat.le_refl _) (exs_lt hg) (exlim_lt gb) (Ex.lt_is vb gb)).mono ?_; rintro _ wq5 ⟨rfl, hb'⟩; dsimp only
     refine hK.out _ _ (hb.trans (hb'.mono hb.size)) (fun hHeld => ?_)
     replace hv := hv.below hb' hv.lt
     replace hd := hd.below hb' hd.lt
     replace hg := hg.below hb' hg.lt
     replace ha := ha.below hb' ha.lt
     clear hb hb'
     have hb := hHeld
     clear hK K
     try simp only [Act.put, la3, la4, la5]
     apply Ord.go_light (i := 7) (by kernel_rfl)
     next => (simp only [la0, la1, la2]; rfl)
     next => rfl
     next => (intro w' hSw; clear hSw; go_simp; first | done | with_reducible rfl)
     simp only [Act.put, la3, la4, la5]
     apply Ord.go_light (i := 8) (by kernel_rfl)
     next => (simp only [la0, la1, la2]; rfl)
     next => rfl
     next => (intro w' hSw; clear hSw; go_simp; first | done | with_reducible rfl)
     simp only [Act.put, la3, la4, la5]
     apply Ord.go_light (i := 9) (by kernel_rfl)
     next => (simp only [la0, la1, la2]; rfl)
     next => rfl
     next => (intro w' hSw; clear hSw; go_simp; first | done | with_reducible rfl)
     simp only [Act.put, la3, la4, la5]
     refine Ord.go_one (i := 11) (by kernel_rfl) (by kernel_rfl) ?_
     apply Ord.go_done1
     next => (simp only [la0, la1, la2]; rfl)
     next => rfl
     intro K hK
     have q0 := ha.cell 0 _ rfl
     have q1 := ha.cell 1 _ rfl
     have q2 := ha.cell 2 _ rfl
     have q3 := ha.cell 3 _ rfl
     have f0 := ha.frozen 0
     have f1 := ha.frozen 1
     have f2 := ha.frozen 2
     have f3 := ha.frozen 3
     have lga := ha.lt
     go_wp2_with fail
     refine hK.out _ _ (below4 (g := ga) _ _ _ _ hb hal) (fun hHeld => ?_)
     replace ha := set4 (.int .i64 (Ty.of 2).k) (.int .i64 (Ty.of 2).lo) (.int .i64 (Ty.of 2).hi) (.string (Ty.of 2).name) ha
     clear hb q0 q1 q2 q3 f0 f1 f2 f3 lga
     have hb := hHeld
     clear hK K
     refine Ord.go_tail ?_; simp only [List.drop_succ_cons, List.drop_zero]
     go_wp2_with fail
     refine ⟨rfl, db, gb, ga, ?_, ha, hb⟩
     simp only [putL, List.append_eq, List.cons_append, List.nil_append, Act.put, la3, la4, la5]
     try rfl
   ·
    apply Ord.go_done1
    next => (simp only [la0, la1, la2]; rfl)
    next => rfl
    intro K hK
    go_wp2_with fail
    obtain ⟨wq2, hx⟩ : ∃ q, wq1.alloc (.cells #[.int .i64 5, .int .i64 0, .string ⟨#[120]⟩, .string ⟨#[]⟩, .slice none 0 0, .int .i64 1, .int .i64 0, .string ⟨#[]⟩, .string ⟨#[]⟩, .slice none 0 0] 29) = q := ⟨_, rfl⟩
    have hg := Aid.Has.new wq1 [.int .i64 5, .int .i64 0, .string ⟨#[120]⟩, .string ⟨#[]⟩, .slice none 0 0, .int .i64 1, .int .i64 0, .string ⟨#[]⟩, .string ⟨#[]⟩, .slice none 0 0] 29
    have hb' := below_new wq1 (.cells #[.int .i64 5, .int .i64 0, .string ⟨#[120]⟩, .string ⟨#[]⟩, .slice none 0 0, .int .i64 1, .int .i64 0, .string ⟨#[]⟩, .string ⟨#[]⟩, .slice none 0 0] 29)
    rw [hx] at hg hb' ⊢
    refine hK.out _ _ (hb.trans (hb'.mono hb.size)) (fun hHeld => ?_)
    replace ha := ha.below hb' ha.lt
    generalize wq1.heap.size = gb at *
    clear hb hb'
    have hb := hHeld
    clear hx
    clear hK K
    try simp only [Act.put, la3, la4, la5]
    apply Ord.go_light (i := 5) (by kernel_rfl)
    next => (simp only [la0, la1, la2]; rfl)
    next => rfl
    next => (intro w' hSw; clear hSw; go_simp; first | done | with_reducible rfl)
    simp only [Act.put, la3, la4, la5]
    refine Ord.go_one (i := 0) (by kernel_rfl) (by kernel_rfl) ?_
    apply Ord.go_done1
    next => (simp only [List.getElem?_toArray, List.getElem?_cons_zero]; rfl)
    next => rfl
    intro K hK
    go_wp2_with fail
    refine (one_is _).mono ?_; rintro _ wq3 ⟨vb, db, rfl, hv, hd, hb'⟩; dsimp only
    refine hK.out _ _ (hb.trans (hb'.mono hb.size)) (fun hHeld => ?_)
    replace hg := hg.below hb' hg.lt
    replace ha := ha.below hb' ha.lt
    clear hb hb'
    have hb := hHeld
    clear hK K
    try simp only [Act.put, la3, la4, la5]
    refine Ord.go_one (i := 1) (by kernel_rfl) (by kernel_rfl) ?_
    apply Ord.go_done1
    next => (simp only [la0, la1, la2]; rfl)
    next => rfl
    intro K hK
    go_wp2_with fail
    refine (body_is _).mono ?_; rintro _ wq4 ⟨rfl, hb'⟩; dsimp only
    refine hK.out _ _ (hb.trans (hb'.mono hb.size)) (fun hHeld => ?_)
    replace hv := hv.below hb' hv.lt
    replace hd := hd.below hb' hd.lt
    replace hg := hg.below hb' hg.lt
    replace ha := ha.below hb' ha.lt
    clear hb hb'
    have hb := hHeld
    clear hK K
    try simp only [Act.put, la3, la4, la5]
    refine Ord.go_one (i := 6) (by kernel_rfl) (by kernel_rfl) ?_
    apply Ord.go_done1
    next => (simp only [la0, la1, la2]; rfl)
    next => rfl
    intro K hK
    go_wp2_with fail
    refine (Expr_prog 2 [Ty.oneD vb] (some ⟨db, 0, none⟩) _ 1 0 (Ty.oneD vb) (Ex.lt gb) (Ty.of 2) 0 _ rfl rfl (by simp [Ty.oneD]) (one_at hv hd) (Nat.le_refl _) (exs_lt hg) (exlim_lt gb) (Ex.lt_is vb gb)).mono ?_; rintro _ wq5 ⟨rfl, hb'⟩; dsimp only
    refine hK.out _ _ (hb.trans (hb'.mono hb.size)) (fun hHeld => ?_)
    replace hv := hv.below hb' hv.lt
    replace hd := hd.below hb' hd.lt
    replace hg := hg.below hb' hg.lt
    replace ha := ha.below hb' ha.lt
    clear hb hb'
    have hb := hHeld
    clear hK K
    try simp only [Act.put, la3, la4, la5]
    apply Ord.go_light (i := 7) (by kernel_rfl)
    next => (simp only [la0, la1, la2]; rfl)
    next => rfl
    next => (intro w' hSw; clear hSw; go_simp; first | done | with_reducible rfl)
    simp only [Act.put, la3, la4, la5]
    apply Ord.go_light (i := 8) (by kernel_rfl)
    next => (simp only [la0, la1, la2]; rfl)
    next => rfl
    next => (intro w' hSw; clear hSw; go_simp; first | done | with_reducible rfl)
    simp only [Act.put, la3, la4, la5]
    apply Ord.go_light (i := 9) (by kernel_rfl)
    next => (simp only [la0, la1, la2]; rfl)
    next => rfl
    next => (intro w' hSw; clear hSw; go_simp; first | done | with_reducible rfl)
    simp only [Act.put, la3, la4, la5]
    refine Ord.go_one (i := 11) (by kernel_rfl) (by kernel_rfl) ?_
    apply Ord.go_done1
    next => (simp only [la0, la1, la2]; rfl)
    next => rfl
    intro K hK
    have q0 := ha.cell 0 _ rfl
    have q1 := ha.cell 1 _ rfl
    have q2 := ha.cell 2 _ rfl
    have q3 := ha.cell 3 _ rfl
    have f0 := ha.frozen 0
    have f1 := ha.frozen 1
    have f2 := ha.frozen 2
    have f3 := ha.frozen 3
    have lga := ha.lt
    go_wp2_with fail
    refine hK.out _ _ (below4 (g := ga) _ _ _ _ hb hal) (fun hHeld => ?_)
    replace ha := set4 (.int .i64 (Ty.of 2).k) (.int .i64 (Ty.of 2).lo) (.int .i64 (Ty.of 2).hi) (.string (Ty.of 2).name) ha
    clear hb q0 q1 q2 q3 f0 f1 f2 f3 lga
    have hb := hHeld
    clear hK K
    refine Ord.go_tail ?_; simp only [List.drop_succ_cons, List.drop_zero]
    go_wp2_with fail
    refine ⟨rfl, db, gb, ga, ?_, ha, hb⟩
    simp only [putL, List.append_eq, List.cons_append, List.nil_append, Act.put, la3, la4, la5]
    try rfl
 rintro e' a' w2 ⟨rfl, db, g, g2, rfl, ha, hb⟩
 simp only [putL, List.append_eq, List.cons_append, List.nil_append, Act.put, la3, la4, la5]
 have n1 := N1.out.below hb N1.out.lt
 have k1 := K0.out.trans (hb.mono K0.out.size)
 have HA := Aid.hid ha; have K1 := Aid.hid k1; have NN1 := Aid.hid n1
 clear N1 K0 ha hb k1
 simp only [Ty.of] at *
 go_wp2_with fail
 obtain ⟨W3, hW3⟩ : ∃ W3, w2 = W3 := ⟨_, rfl⟩
 subst hW3
 refine wp_cut (fun a0 => Ty.Asked a0 [18, 19, 20, 21, 22, 23, 17, 24, 25, 4, 5] (fun g => .agg #[.int .i64 8, .int .i64 0, .string ⟨#[]⟩, .string ⟨#[]⟩, .slice (some ⟨g, 0, none⟩) 1 1]) [] Ty.none_ 14 14 1 w2) ?_ ?_
 ·
  have p0 := n1.cell 0 _ rfl
  have p1c := n1.cell 1 _ rfl
  have p2 := n1.cell 2 _ rfl
  have p3 := n1.cell 3 _ rfl
  have p4 := n1.cell 4 _ rfl
  have lp1 := n1.lt
  have hb : Below w2.heap.size w2 w2.drew := (Below.refl _ _).drew
  clear n1 HA K1 NN1
  refine Ord.wp_region_go (fun w' => Below w2.heap.size w2 w') 11 [2, 4, 6, 7, 8] (by kernel_rfl) (by kernel_rfl) (fun _ _ _ _ _ h => by cases h.1) (hb) ?_
  clear hb
  have hb : Below w2.heap.size w2 w2.drew := (Below.refl _ _).drew
  generalize w2.drew = wd0 at *
  apply Ord.go_light (i := 2) (by kernel_rfl)
  next => (simp only [la0, la1, la2]; rfl)
  next => rfl
  next => (intro w' hSw; have z0 := kc hSw p0 lp1; have z1 := kc hSw p1c lp1; have z2 := kc hSw p2 lp1; have z3 := kc hSw p3 lp1; have z4 := kc hSw p4 lp1; clear hSw; go_simp; first | done | with_reducible rfl)
  simp only [Act.put, la3, la4, la5]
  refine Ord.go_three (i := 0) (j := 3) (k := 9) (by kernel_rfl) (by kernel_rfl) ?_ ?_ ?_
  ·
   apply Ord.go_done1
   next => (simp only [List.getElem?_toArray, List.getElem?_cons_zero]; rfl)
   next => rfl
   intro K hK
   go_wp2_with fail
   refine (one_is _).mono ?_; rintro _ wq1 ⟨vb, db, rfl, hv, hd, hb'⟩; dsimp only
   refine hK.out _ _ (hb.trans (hb'.mono hb.size)) (fun hHeld => ?_)
   clear hb hb'
   have hb := hHeld
   clear hK K
   try simp only [Act.put, la3, la4, la5]
   refine Ord.go_three (i := 1) (j := 3) (k := 9) (by kernel_rfl) (by kernel_rfl) ?_ ?_ ?_
   ·
    apply Ord.go_done1
    next => (simp only [la0, la1, la2]; rfl)
    next => rfl
    intro K hK
    go_wp2_with fail
    refine (body_is _).mono ?_; rintro _ wq2 ⟨rfl, hb'⟩; dsimp only
    refine hK.out _ _ (hb.trans (hb'.mono hb.size)) (fun hHeld => ?_)
    replace hv := hv.below hb' hv.lt
    replace hd := hd.below hb' hd.lt
    clear hb hb'
    have hb := hHeld
    clear hK K
    try simp only [Act.put, la3, la4, la5]
    refine Ord.go_two (i := 3) (j := 9) (by kernel_rfl) (by kernel_rfl) ?_ ?_
    ·
     apply Ord.go_done1
     next => (simp only [la0, la1, la2]; rfl)
     next => rfl
     intro K hK
     go_wp2_with fail
     obtain ⟨wq3, hx⟩ : ∃ q, wq2.alloc (.cells #[.int .i64 5, .int .i64 0, .string ⟨#[120]⟩, .string ⟨#[]⟩, .slice none 0 0] 29) = q := ⟨_, rfl⟩
     have hg := Aid.Has.new wq2 [.int .i64 5, .int .i64 0, .string ⟨#[120]⟩, .string ⟨#[]⟩, .slice none 0 0] 29
     have hb' := below_new wq2 (.cells #[.int .i64 5, .int .i64 0, .string ⟨#[120]⟩, .string ⟨#[]⟩, .slice none 0 0] 29)
     rw [hx] at hg hb' ⊢
     refine hK.out _ _ (hb.trans (hb'.mono hb.size)) (fun hHeld => ?_)
     replace hv := hv.below hb' hv.lt
     replace hd := hd.below hb' hd.lt
     generalize wq2.heap.size = gb at *
     clear hb hb'
     have hb := hHeld
     clear hx
     clear hK K
     try simp only [Act.put, la3, la4, la5]
     apply Ord.go_light (i := 4) (by kernel_rfl)
     next => (simp only [la0, la1, la2]; rfl)
     next => rfl
     next => (intro w' hSw; clear hSw; go_simp; first | done | with_reducible rfl)
     simp only [Act.put, la3, la4, la5]
     refine Ord.go_two (i := 5) (j := 9) (by kernel_rfl) (by kernel_rfl) ?_ ?_
     ·
      apply Ord.go_done1
      next => (simp only [la0, la1, la2]; rfl)
      next => rfl
      intro K hK
      go_wp2_with fail
      refine (Expr_prog 2 [Ty.oneD vb] (some ⟨db, 0, none⟩) _ 1 0 (Ty.oneD vb) (Ex.nx gb) (Ty.none_) 14 _ rfl rfl (by simp [Ty.oneD]) (one_at hv hd) (Nat.le_refl _) (exs_nx hg) (exlim_nx gb) (Ex.nx_is vb gb)).mono ?_; rintro _ wq4 ⟨rfl, hb'⟩; dsimp only
      refine hK.out _ _ (hb.trans (hb'.mono hb.size)) (fun hHeld => ?_)
      replace hv := hv.below hb' hv.lt
      replace hd := hd.below hb' hd.lt
      replace hg := hg.below hb' hg.lt
      clear hb hb'
      have hb := hHeld
      clear hK K
      try simp only [Act.put, la3, la4, la5]
      apply Ord.go_light (i := 6) (by kernel_rfl)
      next => (simp only [la0, la1, la2]; rfl)
      next => rfl
      next => (intro w' hSw; clear hSw; go_simp; first | done | with_reducible rfl)
      simp only [Act.put, la3, la4, la5]
      apply Ord.go_light (i := 7) (by kernel_rfl)
      next => (simp only [la0, la1, la2]; rfl)
      next => rfl
      next => (intro w' hSw; clear hSw; go_simp; first | done | with_reducible rfl)
      simp only [Act.put, la3, la4, la5]
      apply Ord.go_light (i := 8) (by kernel_rfl)
      next => (simp only [la0, la1, la2]; rfl)
      next => rfl
      next => (intro w' hSw; clear hSw; go_simp; first | done | with_reducible rfl)
      simp only [Act.put, la3, la4, la5]
      refine Ord.go_one (i := 9) (by kernel_rfl) (by kernel_rfl) ?_
      apply Ord.go_done1
      next => (simp only [la0, la1, la2]; rfl)
      next => rfl
      intro K hK
      go_wp2_with fail
      obtain ⟨wq5, hx⟩ : ∃ q, wq4.alloc (.cells #[.int .i64 0, .int .i64 0, .int .i64 0, .string ⟨#[]⟩] 36) = q := ⟨_, rfl⟩
      have ha := Aid.Has.new wq4 [.int .i64 0, .int .i64 0, .int .i64 0, .string ⟨#[]⟩] 36
      have hb' := below_new wq4 (.cells #[.int .i64 0, .int .i64 0, .int .i64 0, .string ⟨#[]⟩] 36)
      rw [hx] at ha hb' ⊢
      have hal : w2.heap.size ≤ wq4.heap.size := hb.size
      refine hK.out _ _ (hb.trans (hb'.mono hb.size)) (fun hHeld => ?_)
      replace hv := hv.below hb' hv.lt
      replace hd := hd.below hb' hd.lt
      replace hg := hg.below hb' hg.lt
      generalize wq4.heap.size = ga at *
      clear hb hb'
      have hb := hHeld
      clear hx
      clear hK K
      try simp only [Act.put, la3, la4, la5]
      refine Ord.go_one (i := 10) (by kernel_rfl) (by kernel_rfl) ?_
      apply Ord.go_done1
      next => (simp only [la0, la1, la2]; rfl)
      next => rfl
      intro K hK
      have q0 := ha.cell 0 _ rfl
      have q1 := ha.cell 1 _ rfl
      have q2 := ha.cell 2 _ rfl
      have q3 := ha.cell 3 _ rfl
      have f0 := ha.frozen 0
      have f1 := ha.frozen 1
      have f2 := ha.frozen 2
      have f3 := ha.frozen 3
      have lga := ha.lt
      go_wp2_with fail
      refine hK.out _ _ (below4 (g := ga) _ _ _ _ hb hal) (fun hHeld => ?_)
      replace ha := set4 (.int .i64 (Ty.none_).k) (.int .i64 (Ty.none_).lo) (.int .i64 (Ty.none_).hi) (.string (Ty.none_).name) ha
      clear hb q0 q1 q2 q3 f0 f1 f2 f3 lga
      have hb := hHeld
      clear hK K
      refine Ord.go_tail ?_; simp only [List.drop_succ_cons, List.drop_zero]
      go_wp2_with fail
      refine ⟨rfl, db, gb, ga, ?_, ha, hb⟩
      simp only [putL, List.append_eq, List.cons_append, List.nil_append, Act.put, la3, la4, la5]
      try rfl
     ·
      apply Ord.go_done1
      next => (simp only [la0, la1, la2]; rfl)
      next => rfl
      intro K hK
      go_wp2_with fail
      obtain ⟨wq4, hx⟩ : ∃ q, wq3.alloc (.cells #[.int .i64 0, .int .i64 0, .int .i64 0, .string ⟨#[]⟩] 36) = q := ⟨_, rfl⟩
      have ha := Aid.Has.new wq3 [.int .i64 0, .int .i64 0, .int .i64 0, .string ⟨#[]⟩] 36
      have hb' := below_new wq3 (.cells #[.int .i64 0, .int .i64 0, .int .i64 0, .string ⟨#[]⟩] 36)
      rw [hx] at ha hb' ⊢
      have hal : w2.heap.size ≤ wq3.heap.size := hb.size
      refine hK.out _ _ (hb.trans (hb'.mono hb.size)) (fun hHeld => ?_)
      replace hv := hv.below hb' hv.lt
      replace hd := hd.below hb' hd.lt
      replace hg := hg.below hb' hg.lt
      generalize wq3.heap.size = ga at *
      clear hb hb'
      have hb := hHeld
      clear hx
      clear hK K
      try simp only [Act.put, la3, la4, la5]
      refine Ord.go_one (i := 5) (by kernel_rfl) (by kernel_rfl) ?_
      apply Ord.go_done1
      next => (simp only [la0, la1, la2]; rfl)
      next => rfl
      intro K hK
      go_wp2_with fail
      refine (Expr_prog 2 [Ty.oneD vb] (some ⟨db, 0, none⟩) _ 1 0 (Ty.oneD vb) (Ex.nx gb) (Ty.none_) 14 _ rfl rfl (by simp [Ty.oneD]) (one_at hv hd) (Nat.le_refl _) (exs_nx hg) (exlim_nx gb) (Ex.nx_is vb gb)).mono ?_; rintro _ wq5 ⟨rfl, hb'⟩; dsimp only
      refine hK.out _ _ (hb.trans (hb'.mono hb.size)) (fun hHeld => ?_)
      replace hv := hv.below hb' hv.lt
      replace hd := hd.below hb' hd.lt
      replace hg := hg.below hb' hg.lt
      replace ha := ha.below hb' ha.lt
      clear hb hb'
      have hb := hHeld
      clear hK K
      try simp only [Act.put, la3, la4, la5]
      apply Ord.go_light (i := 6) (by kernel_rfl)
      next => (simp only [la0, la1, la2]; rfl)
      next => rfl
      next => (intro w' hSw; clear hSw; go_simp; first | done | with_reducible rfl)
      simp only [Act.put, la3, la4, la5]
      apply Ord.go_light (i := 7) (by kernel_rfl)
      next => (simp only [la0, la1, la2]; rfl)
      next => rfl
      next => (intro w' hSw; clear hSw; go_simp; first | done | with_reducible rfl)
      simp only [Act.put, la3, la4, la5]
      apply Ord.go_light (i := 8) (by kernel_rfl)
      next => (simp only [la0, la1, la2]; rfl)
      next => rfl
      next => (intro w' hSw; clear hSw; go_simp; first | done | with_reducible rfl)
      simp only [Act.put, la3, la4, la5]
      refine Ord.go_one (i := 10) (by kernel_rfl) (by kernel_rfl) ?_
      apply Ord.go_done1
      next => (simp only [la0, la1, la2]; rfl)
      next => rfl
      intro K hK
      have q0 := ha.cell 0 _ rfl
      have q1 := ha.cell 1 _ rfl
      have q2 := ha.cell 2 _ rfl
      have q3 := ha.cell 3 _ rfl
      have f0 := ha.frozen 0
      have f1 := ha.frozen 1
      have f2 := ha.frozen 2
      have f3 := ha.frozen 3
      have lga := ha.lt
      go_wp2_with fail
      refine hK.out _ _ (below4 (g := ga) _ _ _ _ hb hal) (fun hHeld => ?_)
      replace ha := set4 (.int .i64 (Ty.none_).k) (.int .i64 (Ty.none_).lo) (.int .i64 (Ty.none_).hi) (.string (Ty.none_).name) ha
      clear hb q0 q1 q2 q3 f0 f1 f2 f3 lga
      have hb := hHeld
      clear hK K
      refine Ord.go_tail ?_; simp only [List.drop_succ_cons, List.drop_zero]
      go_wp2_with fail
      refine ⟨rfl, db, gb, ga, ?_, ha, hb⟩
      simp only [putL, List.append_eq, List.cons_append, List.nil_append, Act.put, la3, la4, la5]
      try rfl
    ·
     apply Ord.go_done1
     next => (simp only [la0, la1, la2]; rfl)
     next => rfl
     intro K hK
     go_wp2_with fail
     obtain ⟨wq3, hx⟩ : ∃ q, wq2.alloc (.cells #[.int .i64 0, .int .i64 0, .int .i64 0, .string ⟨#[]⟩] 36) = q := ⟨_, rfl⟩
     have ha := Aid.Has.new wq2 [.int .i64 0, .int .i64 0, .int .i64 0, .string ⟨#[]⟩] 36
     have hb' := below_new wq2 (.cells #[.int .i64 0, .int .i64 0, .int .i64 0, .string ⟨#[]⟩] 36)
     rw [hx] at ha hb' ⊢
     have hal : w2.heap.size ≤ wq2.heap.size := hb.size
     refine hK.out _ _ (hb.trans (hb'.mono hb.size)) (fun hHeld => ?_)
     replace hv := hv.below hb' hv.lt
     replace hd := hd.below hb' hd.lt
     generalize wq2.heap.size = ga at *
     clear hb hb'
     have hb := hHeld
     clear hx
     clear hK K
     try simp only [Act.put, la3, la4, la5]
     refine Ord.go_one (i := 3) (by kernel_rfl) (by kernel_rfl) ?_
     apply Ord.go_done1
     next => (simp only [la0, la1, la2]; rfl)
     next => rfl
     intro K hK
     go_wp2_with fail
     obtain ⟨wq4, hx⟩ : ∃ q, wq3.alloc (.cells #[.int .i64 5, .int .i64 0, .string ⟨#[120]⟩, .string ⟨#[]⟩, .slice none 0 0] 29) = q := ⟨_, rfl⟩
     have hg := Aid.Has.new wq3 [.int .i64 5, .int .i64 0, .string ⟨#[120]⟩, .string ⟨#[]⟩, .slice none 0 0] 29
     have hb' := below_new wq3 (.cells #[.int .i64 5, .int .i64 0, .string ⟨#[120]⟩, .string ⟨#[]⟩, .slice none 0 0] 29)
     rw [hx] at hg hb' ⊢
     refine hK.out _ _ (hb.trans (hb'.mono hb.size)) (fun hHeld => ?_)
     replace hv := hv.below hb' hv.lt
     replace hd := hd.below hb' hd.lt
     replace ha := ha.below hb' ha.lt
     generalize wq3.heap.size = gb at *
     clear hb hb'
     have hb := hHeld
     clear hx
     clear hK K
     try simp only [Act.put, la3, la4, la5]
     apply Ord.go_light (i := 4) (by kernel_rfl)
     next => (simp only [la0, la1, la2]; rfl)
     next => rfl
     next => (intro w' hSw; clear hSw; go_simp; first | done | with_reducible rfl)
     simp only [Act.put, la3, la4, la5]
     refine Ord.go_one (i := 5) (by kernel_rfl) (by kernel_rfl) ?_
     apply Ord.go_done1
     next => (simp only [la0, la1, la2]; rfl)
     next => rfl
     intro K hK
     go_wp2_with fail
     refine (Expr_prog 2 [Ty.oneD vb] (some ⟨db, 0, none⟩) _ 1 0 (Ty.oneD vb) (Ex.nx gb) (Ty.none_) 14 _ rfl rfl (by simp [Ty.oneD]) (one_at hv hd) (Nat.le_refl _) (exs_nx hg) (exlim_nx gb) (Ex.nx_is vb gb)).mono ?_; rintro _ wq5 ⟨rfl, hb'⟩; dsimp only
     refine hK.out _ _ (hb.trans (hb'.mono hb.size)) (fun hHeld => ?_)
     replace hv := hv.below hb' hv.lt
     replace hd := hd.below hb' hd.lt
     replace hg := hg.below hb' hg.lt
     replace ha := ha.below hb' ha.lt
     clear hb hb'
     have hb := hHeld
     clear hK K
     try simp only [Act.put, la3, la4, la5]
     apply Ord.go_light (i := 6) (by kernel_rfl)
     next => (simp only [la0, la1, la2]; rfl)
     next => rfl
     next => (intro w' hSw; clear hSw; go_simp; first | done | with_reducible rfl)
     simp only [Act.put, la3, la4, la5]
     apply Ord.go_light (i := 7) (by kernel_rfl)
     next => (simp only [la0, la1, la2]; rfl)
     next => rfl
     next => (intro w' hSw; clear hSw; go_simp; first | done | with_reducible rfl)
     simp only [Act.put, la3, la4, la5]
     apply Ord.go_light (i := 8) (by kernel_rfl)
     next => (simp only [la0, la1, la2]; rfl)
     next => rfl
     next => (intro w' hSw; clear hSw; go_simp; first | done | with_reducible rfl)
     simp only [Act.put, la3, la4, la5]
     refine Ord.go_one (i := 10) (by kernel_rfl) (by kernel_rfl) ?_
     apply Ord.go_done1
     next => (simp only [la0, la1, la2]; rfl)
     next => rfl
     intro K hK
     have q0 := ha.cell 0 _ rfl
     have q1 := ha.cell 1 _ rfl
     have q2 := ha.cell 2 _ rfl
     have q3 := ha.cell 3 _ rfl
     have f0 := ha.frozen 0
     have f1 := ha.frozen 1
     have f2 := ha.frozen 2
     have f3 := ha.frozen 3
     have lga := ha.lt
     go_wp2_with fail
     refine hK.out _ _ (below4 (g := ga) _ _ _ _ hb hal) (fun hHeld => ?_)
     replace ha := set4 (.int .i64 (Ty.none_).k) (.int .i64 (Ty.none_).lo) (.int .i64 (Ty.none_).hi) (.string (Ty.none_).name) ha
     clear hb q0 q1 q2 q3 f0 f1 f2 f3 lga
     have hb := hHeld
     clear hK K
     refine Ord.go_tail ?_; simp only [List.drop_succ_cons, List.drop_zero]
     go_wp2_with fail
     refine ⟨rfl, db, gb, ga, ?_, ha, hb⟩
     simp only [putL, List.append_eq, List.cons_append, List.nil_append, Act.put, la3, la4, la5]
     try rfl
   ·
    apply Ord.go_done1
    next => (simp only [la0, la1, la2]; rfl)
    next => rfl
    intro K hK
    go_wp2_with fail
    obtain ⟨wq2, hx⟩ : ∃ q, wq1.alloc (.cells #[.int .i64 5, .int .i64 0, .string ⟨#[120]⟩, .string ⟨#[]⟩, .slice none 0 0] 29) = q := ⟨_, rfl⟩
    have hg := Aid.Has.new wq1 [.int .i64 5, .int .i64 0, .string ⟨#[120]⟩, .string ⟨#[]⟩, .slice none 0 0] 29
    have hb' := below_new wq1 (.cells #[.int .i64 5, .int .i64 0, .string ⟨#[120]⟩, .string ⟨#[]⟩, .slice none 0 0] 29)
    rw [hx] at hg hb' ⊢
    refine hK.out _ _ (hb.trans (hb'.mono hb.size)) (fun hHeld => ?_)
    replace hv := hv.below hb' hv.lt
    replace hd := hd.below hb' hd.lt
    generalize wq1.heap.size = gb at *
    clear hb hb'
    have hb := hHeld
    clear hx
    clear hK K
    try simp only [Act.put, la3, la4, la5]
    apply Ord.go_light (i := 4) (by kernel_rfl)
    next => (simp only [la0, la1, la2]; rfl)
    next => rfl
    next => (intro w' hSw; clear hSw; go_simp; first | done | with_reducible rfl)
    simp only [Act.put, la3, la4, la5]
    refine Ord.go_two (i := 1) (j := 9) (by kernel_rfl) (by kernel_rfl) ?_ ?_
    ·
     apply Ord.go_done1
     next => (simp only [la0, la1, la2]; rfl)
     next => rfl
     intro K hK
     go_wp2_with fail
     refine (body_is _).mono ?_; rintro _ wq3 ⟨rfl, hb'⟩; dsimp only
     refine hK.out _ _ (hb.trans (hb'.mono hb.size)) (fun hHeld => ?_)
     replace hv := hv.below hb' hv.lt
     replace hd := hd.below hb' hd.lt
     replace hg := hg.below hb' hg.lt
     clear hb hb'
     have hb := hHeld
     clear hK K
     try simp only [Act.put, la3, la4, la5]
     refine Ord.go_two (i := 5) (j := 9) (by kernel_rfl) (by kernel_rfl) ?_ ?_
     ·
      apply Ord.go_done1
      next => (simp only [la0, la1, la2]; rfl)
      next => rfl
      intro K hK
      go_wp2_with fail
      refine (Expr_prog 2 [Ty.oneD vb] (some ⟨db, 0, none⟩) _ 1 0 (Ty.oneD vb) (Ex.nx gb) (Ty.none_) 14 _ rfl rfl (by simp [Ty.oneD]) (one_at hv hd) (Nat.le_refl _) (exs_nx hg) (exlim_nx gb) (Ex.nx_is vb gb)).mono ?_; rintro _ wq4 ⟨rfl, hb'⟩; dsimp only
      refine hK.out _ _ (hb.trans (hb'.mono hb.size)) (fun hHeld => ?_)
      replace hv := hv.below hb' hv.lt
      replace hd := hd.below hb' hd.lt
      replace hg := hg.below hb' hg.lt
      clear hb hb'
      have hb := hHeld
      clear hK K
      try simp only [Act.put, la3, la4, la5]
      apply Ord.go_light (i := 6) (by kernel_rfl)
      next => (simp only [la0, la1, la2]; rfl)
      next => rfl
      next => (intro w' hSw; clear hSw; go_simp; first | done | with_reducible rfl)
      simp only [Act.put, la3, la4, la5]
      apply Ord.go_light (i := 7) (by kernel_rfl)
      next => (simp only [la0, la1, la2]; rfl)
      next => rfl
      next => (intro w' hSw; clear hSw; go_simp; first | done | with_reducible rfl)
      simp only [Act.put, la3, la4, la5]
      apply Ord.go_light (i := 8) (by kernel_rfl)
      next => (simp only [la0, la1, la2]; rfl)
      next => rfl
      next => (intro w' hSw; clear hSw; go_simp; first | done | with_reducible rfl)
      simp only [Act.put, la3, la4, la5]
      refine Ord.go_one (i := 9) (by kernel_rfl) (by kernel_rfl) ?_
      apply Ord.go_done1
      next => (simp only [la0, la1, la2]; rfl)
      next => rfl
      intro K hK
      go_wp2_with fail
      obtain ⟨wq5, hx⟩ : ∃ q, wq4.alloc (.cells #[.int .i64 0, .int .i64 0, .int .i64 0, .string ⟨#[]⟩] 36) = q := ⟨_, rfl⟩
      have ha := Aid.Has.new wq4 [.int .i64 0, .int .i64 0, .int .i64 0, .string ⟨#[]⟩] 36
      have hb' := below_new wq4 (.cells #[.int .i64 0, .int .i64 0, .int .i64 0, .string ⟨#[]⟩] 36)
      rw [hx] at ha hb' ⊢
      have hal : w2.heap.size ≤ wq4.heap.size := hb.size
      refine hK.out _ _ (hb.trans (hb'.mono hb.size)) (fun hHeld => ?_)
      replace hv := hv.below hb' hv.lt
      replace hd := hd.below hb' hd.lt
      replace hg := hg.below hb' hg.lt
      generalize wq4.heap.size = ga at *
      clear hb hb'
      have hb := hHeld
      clear hx
      clear hK K
      try simp only [Act.put, la3, la4, la5]
      refine Ord.go_one (i := 10) (by kernel_rfl) (by kernel_rfl) ?_
      apply Ord.go_done1
      next => (simp only [la0, la1, la2]; rfl)
      next => rfl
      intro K hK
      have q0 := ha.cell 0 _ rfl
      have q1 := ha.cell 1 _ rfl
      have q2 := ha.cell 2 _ rfl
      have q3 := ha.cell 3 _ rfl
      have f0 := ha.frozen 0
      have f1 := ha.frozen 1
      have f2 := ha.frozen 2
      have f3 := ha.frozen 3
      have lga := ha.lt
      go_wp2_with fail
      refine hK.out _ _ (below4 (g := ga) _ _ _ _ hb hal) (fun hHeld => ?_)
      replace ha := set4 (.int .i64 (Ty.none_).k) (.int .i64 (Ty.none_).lo) (.int .i64 (Ty.none_).hi) (.string (Ty.none_).name) ha
      clear hb q0 q1 q2 q3 f0 f1 f2 f3 lga
      have hb := hHeld
      clear hK K
      refine Ord.go_tail ?_; simp only [List.drop_succ_cons, List.drop_zero]
      go_wp2_with fail
      refine ⟨rfl, db, gb, ga, ?_, ha, hb⟩
      simp only [putL, List.append_eq, List.cons_append, List.nil_append, Act.put, la3, la4, la5]
      try rfl
     ·
      apply Ord.go_done1
      next => (simp only [la0, la1, la2]; rfl)
      next => rfl
      intro K hK
      go_wp2_with fail
      obtain ⟨wq4, hx⟩ : ∃ q, wq3.alloc (.cells #[.int .i64 0, .int .i64 0, .int .i64 0, .string ⟨#[]⟩] 36) = q := ⟨_, rfl⟩
      have ha := Aid.Has.new wq3 [.int .i64 0, .int .i64 0, .int .i64 0, .string ⟨#[]⟩] 36
      have hb' := below_new wq3 (.cells #[.int .i64 0, .int .i64 0, .int .i64 0, .string ⟨#[]⟩] 36)
      rw [hx] at ha hb' ⊢
      have hal : w2.heap.size ≤ wq3.heap.size := hb.size
      refine hK.out _ _ (hb.trans (hb'.mono hb.size)) (fun hHeld => ?_)
      replace hv := hv.below hb' hv.lt
      replace hd := hd.below hb' hd.lt
      replace hg := hg.below hb' hg.lt
      generalize wq3.heap.size = ga at *
      clear hb hb'
      have hb := hHeld
      clear hx
      clear hK K
      try simp only [Act.put, la3, la4, la5]
      refine Ord.go_one (i := 5) (by kernel_rfl) (by kernel_rfl) ?_
      apply Ord.go_done1
      next => (simp only [la0, la1, la2]; rfl)
      next => rfl
      intro K hK
      go_wp2_with fail
      refine (Expr_prog 2 [Ty.oneD vb] (some ⟨db, 0, none⟩) _ 1 0 (Ty.oneD vb) (Ex.nx gb) (Ty.none_) 14 _ rfl rfl (by simp [Ty.oneD]) (one_at hv hd) (Nat.le_refl _) (exs_nx hg) (exlim_nx gb) (Ex.nx_is vb gb)).mono ?_; rintro _ wq5 ⟨rfl, hb'⟩; dsimp only
      refine hK.out _ _ (hb.trans (hb'.mono hb.size)) (fun hHeld => ?_)
      replace hv := hv.below hb' hv.lt
      replace hd := hd.below hb' hd.lt
      replace hg := hg.below hb' hg.lt
      replace ha := ha.below hb' ha.lt
      clear hb hb'
      have hb := hHeld
      clear hK K
      try simp only [Act.put, la3, la4, la5]
      apply Ord.go_light (i := 6) (by kernel_rfl)
      next => (simp only [la0, la1, la2]; rfl)
      next => rfl
      next => (intro w' hSw; clear hSw; go_simp; first | done | with_reducible rfl)
      simp only [Act.put, la3, la4, la5]
      apply Ord.go_light (i := 7) (by kernel_rfl)
      next => (simp only [la0, la1, la2]; rfl)
      next => rfl
      next => (intro w' hSw; clear hSw; go_simp; first | done | with_reducible rfl)
      simp only [Act.put, la3, la4, la5]
      apply Ord.go_light (i := 8) (by kernel_rfl)
      next => (simp only [la0, la1, la2]; rfl)
      next => rfl
      next => (intro w' hSw; clear hSw; go_simp; first | done | with_reducible rfl)
      simp only [Act.put, la3, la4, la5]
      refine Ord.go_one (i := 10) (by kernel_rfl) (by kernel_rfl) ?_
      apply Ord.go_done1
      next => (simp only [la0, la1, la2]; rfl)
      next => rfl
      intro K hK
      have q0 := ha.cell 0 _ rfl
      have q1 := ha.cell 1 _ rfl
      have q2 := ha.cell 2 _ rfl
      have q3 := ha.cell 3 _ rfl
      have f0 := ha.frozen 0
      have f1 := ha.frozen 1
      have f2 := ha.frozen 2
      have f3 := ha.frozen 3
      have lga := ha.lt
      go_wp2_with fail
      refine hK.out _ _ (below4 (g := ga) _ _ _ _ hb hal) (fun hHeld => ?_)
      replace ha := set4 (.int .i64 (Ty.none_).k) (.int .i64 (Ty.none_).lo) (.int .i64 (Ty.none_).hi) (.string (Ty.none_).name) ha
      clear hb q0 q1 q2 q3 f0 f1 f2 f3 lga
      have hb := hHeld
      clear hK K
      refine Ord.go_tail ?_; simp only [List.drop_succ_cons, List.drop_zero]
      go_wp2_with fail
      refine ⟨rfl, db, gb, ga, ?_, ha, hb⟩
      simp only [putL, List.append_eq, List.cons_append, List.nil_append, Act.put, la3, la4, la5]
      try rfl
    ·
     apply Ord.go_done1
     next => (simp only [la0, la1, la2]; rfl)
     next => rfl
     intro K hK
     go_wp2_with fail
     obtain ⟨wq3, hx⟩ : ∃ q, wq2.alloc (.cells #[.int .i64 0, .int .i64 0, .int .i64 0, .string ⟨#[]⟩] 36) = q := ⟨_, rfl⟩
     have ha := Aid.Has.new wq2 [.int .i64 0, .int .i64 0, .int .i64 0, .string ⟨#[]⟩] 36
     have hb' := below_new wq2 (.cells #[.int .i64 0, .int .i64 0, .int .i64 0, .string ⟨#[]⟩] 36)
     rw [hx] at ha hb' ⊢
     have hal : w2.heap.size ≤ wq2.heap.size := hb.size
     refine hK.out _ _ (hb.trans (hb'.mono hb.size)) (fun hHeld => ?_)
     replace hv := hv.below hb' hv.lt
     replace hd := hd.below hb' hd.lt
     replace hg := hg.below hb' hg.lt
     generalize wq2.heap.size = ga at *
     clear hb hb'
     have hb := hHeld
     clear hx
     clear hK K
     try simp only [Act.put, la3, la4, la5]
     refine Ord.go_one (i := 1) (by kernel_rfl) (by kernel_rfl) ?_
     apply Ord.go_done1
     next => (simp only [la0, la1, la2]; rfl)
     next => rfl
     intro K hK
     go_wp2_with fail
     refine (body_is _).mono ?_; rintro _ wq4 ⟨rfl, hb'⟩; dsimp only
     refine hK.out _ _ (hb.trans (hb'.mono hb.size)) (fun hHeld => ?_)
     replace hv := hv.below hb' hv.lt
     replace hd := hd.below hb' hd.lt
     replace hg := hg.below hb' hg.lt
     replace ha := ha.below hb' ha.lt
     clear hb hb'
     have hb := hHeld
     clear hK K
     try simp only [Act.put, la3, la4, la5]
     refine Ord.go_one (i := 5) (by kernel_rfl) (by kernel_rfl) ?_
     apply Ord.go_done1
     next => (simp only [la0, la1, la2]; rfl)
     next => rfl
     intro K hK
     go_wp2_with fail
     refine (Expr_prog 2 [Ty.oneD vb] (some ⟨db, 0, none⟩) _ 1 0 (Ty.oneD vb) (Ex.nx gb) (Ty.none_) 14 _ rfl rfl (by simp [Ty.oneD]) (one_at hv hd) (Nat.le_refl _) (exs_nx hg) (exlim_nx gb) (Ex.nx_is vb gb)).mono ?_; rintro _ wq5 ⟨rfl, hb'⟩; dsimp only
     refine hK.out _ _ (hb.trans (hb'.mono hb.size)) (fun hHeld => ?_)
     replace hv := hv.below hb' hv.lt
     replace hd := hd.below hb' hd.lt
     replace hg := hg.below hb' hg.lt
     replace ha := ha.below hb' ha.lt
     clear hb hb'
     have hb := hHeld
     clear hK K
     try simp only [Act.put, la3, la4, la5]
     apply Ord.go_light (i := 6) (by kernel_rfl)
     next => (simp only [la0, la1, la2]; rfl)
     next => rfl
     next => (intro w' hSw; clear hSw; go_simp; first | done | with_reducible rfl)
     simp only [Act.put, la3, la4, la5]
     apply Ord.go_light (i := 7) (by kernel_rfl)
     next => (simp only [la0, la1, la2]; rfl)
     next => rfl
     next => (intro w' hSw; clear hSw; go_simp; first | done | with_reducible rfl)
     simp only [Act.put, la3, la4, la5]
     apply Ord.go_light (i := 8) (by kernel_rfl)
     next => (simp only [la0, la1, la2]; rfl)
     next => rfl
     next => (intro w' hSw; clear hSw; go_simp; first | done | with_reducible rfl)
     simp only [Act.put, la3, la4, la5]
     refine Ord.go_one (i := 10) (by kernel_rfl) (by kernel_rfl) ?_
     apply Ord.go_done1
     next => (simp only [la0, la1, la2]; rfl)
     next => rfl
     intro K hK
     have q0 := ha.cell 0 _ rfl
     have q1 := ha.cell 1 _ rfl
     have q2 := ha.cell 2 _ rfl
     have q3 := ha.cell 3 _ rfl
     have f0 := ha.frozen 0
     have f1 := ha.frozen 1
     have f2 := ha.frozen 2
     have f3 := ha.frozen 3
     have lga := ha.lt
     go_wp2_with fail
     refine hK.out _ _ (below4 (g := ga) _ _ _ _ hb hal) (fun hHeld => ?_)
     replace ha := set4 (.int .i64 (Ty.none_).k) (.int .i64 (Ty.none_).lo) (.int .i64 (Ty.none_).hi) (.string (Ty.none_).name) ha
     clear hb q0 q1 q2 q3 f0 f1 f2 f3 lga
     have hb := hHeld
     clear hK K
     refine Ord.go_tail ?_; simp only [List.drop_succ_cons, List.drop_zero]
     go_wp2_with fail
     refine ⟨rfl, db, gb, ga, ?_, ha, hb⟩
     simp only [putL, List.append_eq, List.cons_append, List.nil_append, Act.put, la3, la4, la5]
     try rfl
   ·
    apply Ord.go_done1
    next => (simp only [la0, la1, la2]; rfl)
    next => rfl
    intro K hK
    go_wp2_with fail
    obtain ⟨wq2, hx⟩ : ∃ q, wq1.alloc (.cells #[.int .i64 0, .int .i64 0, .int .i64 0, .string ⟨#[]⟩] 36) = q := ⟨_, rfl⟩
    have ha := Aid.Has.new wq1 [.int .i64 0, .int .i64 0, .int .i64 0, .string ⟨#[]⟩] 36
    have hb' := below_new wq1 (.cells #[.int .i64 0, .int .i64 0, .int .i64 0, .string ⟨#[]⟩] 36)
    rw [hx] at ha hb' ⊢
    have hal : w2.heap.size ≤ wq1.heap.size := hb.size
    refine hK.out _ _ (hb.trans (hb'.mono hb.size)) (fun hHeld => ?_)
    replace hv := hv.below hb' hv.lt
    replace hd := hd.below hb' hd.lt
    generalize wq1.heap.size = ga at *
    clear hb hb'
    have hb := hHeld
    clear hx
    clear hK K
    try simp only [Act.put, la3, la4, la5]
    refine Ord.go_two (i := 1) (j := 3) (by kernel_rfl) (by kernel_rfl) ?_ ?_
    ·
     apply Ord.go_done1
     next => (simp only [la0, la1, la2]; rfl)
     next => rfl
     intro K hK
     go_wp2_with fail
     refine (body_is _).mono ?_; rintro _ wq3 ⟨rfl, hb'⟩; dsimp only
     refine hK.out _ _ (hb.trans (hb'.mono hb.size)) (fun hHeld => ?_)
     replace hv := hv.below hb' hv.lt
     replace hd := hd.below hb' hd.lt
     replace ha := ha.below hb' ha.lt
     clear hb hb'
     have hb := hHeld
     clear hK K
     try simp only [Act.put, la3, la4, la5]
     refine Ord.go_one (i := 3) (by kernel_rfl) (by kernel_rfl) ?_
     apply Ord.go_done1
     next => (simp only [la0, la1, la2]; rfl)
     next => rfl
     intro K hK
     go_wp2_with fail
     obtain ⟨wq4, hx⟩ : ∃ q, wq3.alloc (.cells #[.int .i64 5, .int .i64 0, .string ⟨#[120]⟩, .string ⟨#[]⟩, .slice none 0 0] 29) = q := ⟨_, rfl⟩
     have hg := Aid.Has.new wq3 [.int .i64 5, .int .i64 0, .string ⟨#[120]⟩, .string ⟨#[]⟩, .slice none 0 0] 29
     have hb' := below_new wq3 (.cells #[.int .i64 5, .int .i64 0, .string ⟨#[120]⟩, .string ⟨#[]⟩, .slice none 0 0] 29)
     rw [hx] at hg hb' ⊢
     refine hK.out _ _ (hb.trans (hb'.mono hb.size)) (fun hHeld => ?_)
     replace hv := hv.below hb' hv.lt
     replace hd := hd.below hb' hd.lt
     replace ha := ha.below hb' ha.lt
     generalize wq3.heap.size = gb at *
     clear hb hb'
     have hb := hHeld
     clear hx
     clear hK K
     try simp only [Act.put, la3, la4, la5]
     apply Ord.go_light (i := 4) (by kernel_rfl)
     next => (simp only [la0, la1, la2]; rfl)
     next => rfl
     next => (intro w' hSw; clear hSw; go_simp; first | done | with_reducible rfl)
     simp only [Act.put, la3, la4, la5]
     refine Ord.go_one (i := 5) (by kernel_rfl) (by kernel_rfl) ?_
     apply Ord.go_done1
     next => (simp only [la0, la1, la2]; rfl)
     next => rfl
     intro K hK
     go_wp2_with fail
     refine (Expr_prog 2 [Ty.oneD vb] (some ⟨db, 0, none⟩) _ 1 0 (Ty.oneD vb) (Ex.nx gb) (Ty.none_) 14 _ rfl rfl (by simp [Ty.oneD]) (one_at hv hd) (Nat.le_refl _) (exs_nx hg) (exlim_nx gb) (Ex.nx_is vb gb)).mono ?_; rintro _ wq5 ⟨rfl, hb'⟩; dsimp only
     refine hK.out _ _ (hb.trans (hb'.mono hb.size)) (fun hHeld => ?_)
     replace hv := hv.below hb' hv.lt
     replace hd := hd.below hb' hd.lt
     replace hg := hg.below hb' hg.lt
     replace ha := ha.below hb' ha.lt
     clear hb hb'
     have hb := hHeld
     clear hK K
     try simp only [Act.put, la3, la4, la5]
     apply Ord.go_light (i := 6) (by kernel_rfl)
     next => (simp only [la0, la1, la2]; rfl)
     next => rfl
     next => (intro w' hSw; clear hSw; go_simp; first | done | with_reducible rfl)
     simp only [Act.put, la3, la4, la5]
     apply Ord.go_light (i := 7) (by kernel_rfl)
     next => (simp only [la0, la1, la2]; rfl)
     next => rfl
     next => (intro w' hSw; clear hSw; go_simp; first | done | with_reducible rfl)
     simp only [Act.put, la3, la4, la5]
     apply Ord.go_light (i := 8) (by kernel_rfl)
     next => (simp only [la0, la1, la2]; rfl)
     next => rfl
     next => (intro w' hSw; clear hSw; go_simp; first | done | with_reducible rfl)
     simp only [Act.put, la3, la4, la5]
     refine Ord.go_one (i := 10) (by kernel_rfl) (by kernel_rfl) ?_
     apply Ord.go_done1
     next => (simp only [la0, la1, la2]; rfl)
     next => rfl
     intro K hK
     have q0 := ha.cell 0 _ rfl
     have q1 := ha.cell 1 _ rfl
     have q2 := ha.cell 2 _ rfl
     have q3 := ha.cell 3 _ rfl
     have f0 := ha.frozen 0
     have f1 := ha.frozen 1
     have f2 := ha.frozen 2
     have f3 := ha.frozen 3
     have lga := ha.lt
     go_wp2_with fail
     refine hK.out _ _ (below4 (g := ga) _ _ _ _ hb hal) (fun hHeld => ?_)
     replace ha := set4 (.int .i64 (Ty.none_).k) (.int .i64 (Ty.none_).lo) (.int .i64 (Ty.none_).hi) (.string (Ty.none_).name) ha
     clear hb q0 q1 q2 q3 f0 f1 f2 f3 lga
     have hb := hHeld
     clear hK K
     refine Ord.go_tail ?_; simp only [List.drop_succ_cons, List.drop_zero]
     go_wp2_with fail
     refine ⟨rfl, db, gb, ga, ?_, ha, hb⟩
     simp only [putL, List.append_eq, List.cons_append, List.nil_append, Act.put, la3, la4, la5]
     try rfl
    ·
     apply Ord.go_done1
     next => (simp only [la0, la1, la2]; rfl)
     next => rfl
     intro K hK
     go_wp2_with fail
     obtain ⟨wq3, hx⟩ : ∃ q, wq2.alloc (.cells #[.int .i64 5, .int .i64 0, .string ⟨#[120]⟩, .string ⟨#[]⟩, .slice none 0 0] 29) = q := ⟨_, rfl⟩
     have hg := Aid.Has.new wq2 [.int .i64 5, .int .i64 0, .string ⟨#[120]⟩, .string ⟨#[]⟩, .slice none 0 0] 29
     have hb' := below_new wq2 (.cells #[.int .i64 5, .int .i64 0, .string ⟨#[120]⟩, .string ⟨#[]⟩, .slice none 0 0] 29)
     rw [hx] at hg hb' ⊢
     refine hK.out _ _ (hb.trans (hb'.mono hb.size)) (fun hHeld => ?_)
     replace hv := hv.below hb' hv.lt
     replace hd := hd.below hb' hd.lt
     replace ha := ha.below hb' ha.lt
     generalize wq2.heap.size = gb at *
     clear hb hb'
     have hb := hHeld
     clear hx
     clear hK K
     try simp only [Act.put, la3, la4, la5]
     apply Ord.go_light (i := 4) (by kernel_rfl)
     next => (simp only [la0, la1, la2]; rfl)
     next => rfl
     next => (intro w' hSw; clear hSw; go_simp; first | done | with_reducible rfl)
     simp only [Act.put, la3, la4, la5]
     refine Ord.go_one (i := 1) (by kernel_rfl) (by kernel_rfl) ?_
     apply Ord.go_done1
     next => (simp only [la0, la1, la2]; rfl)
     next => rfl
     intro K hK
     go_wp2_with fail
     refine (body_is _).mono ?_; rintro _ wq4 ⟨rfl, hb'⟩; dsimp only
     refine hK.out _ _ (hb.trans (hb'.mono hb.size)) (fun hHeld => ?_)
     replace hv := hv.below hb' hv.lt
     replace hd := hd.below hb' hd.lt
     replace hg := hg.below hb' hg.lt
     replace ha := ha.below hb' ha.lt
     clear hb hb'
     have hb := hHeld
     clear hK K
     try simp only [Act.put, la3, la4, la5]
     refine Ord.go_one (i := 5) (by kernel_rfl) (by kernel_rfl) ?_
     apply Ord.go_done1
     next => (simp only [la0, la1, la2]; rfl)
     next => rfl
     intro K hK
     go_wp2_with fail
     refine (Expr_prog 2 [Ty.oneD vb] (some ⟨db, 0, none⟩) _ 1 0 (Ty.oneD vb) (Ex.nx gb) (Ty.none_) 14 _ rfl rfl (by simp [Ty.oneD]) (one_at hv hd) (Nat.le_refl _) (exs_nx hg) (exlim_nx gb) (Ex.nx_is vb gb)).mono ?_; rintro _ wq5 ⟨rfl, hb'⟩; dsimp only
     refine hK.out _ _ (hb.trans (hb'.mono hb.size)) (fun hHeld => ?_)
     replace hv := hv.below hb' hv.lt
     replace hd := hd.below hb' hd.lt
     replace hg := hg.below hb' hg.lt
     replace ha := ha.below hb' ha.lt
     clear hb hb'
     have hb := hHeld
     clear hK K
     try simp only [Act.put, la3, la4, la5]
     apply Ord.go_light (i := 6) (by kernel_rfl)
     next => (simp only [la0, la1, la2]; rfl)
     next => rfl
     next => (intro w' hSw; clear hSw; go_simp; first | done | with_reducible rfl)
     simp only [Act.put, la3, la4, la5]
     apply Ord.go_light (i := 7) (by kernel_rfl)
     next => (simp only [la0, la1, la2]; rfl)
     next => rfl
     next => (intro w' hSw; clear hSw; go_simp; first | done | with_reducible rfl)
     simp only [Act.put, la3, la4, la5]
     apply Ord.go_light (i := 8) (by kernel_rfl)
     next => (simp only [la0, la1, la2]; rfl)
     next => rfl
     next => (intro w' hSw; clear hSw; go_simp; first | done | with_reducible rfl)
     simp only [Act.put, la3, la4, la5]
     refine Ord.go_one (i := 10) (by kernel_rfl) (by kernel_rfl) ?_
     apply Ord.go_done1
     next => (simp only [la0, la1, la2]; rfl)
     next => rfl
     intro K hK
     have q0 := ha.cell 0 _ rfl
     have q1 := ha.cell 1 _ rfl
     have q2 := ha.cell 2 _ rfl
     have q3 := ha.cell 3 _ rfl
     have f0 := ha.frozen 0
     have f1 := ha.frozen 1
     have f2 := ha.frozen 2
     have f3 := ha.frozen 3
     have lga := ha.lt
     go_wp2_with fail
     refine hK.out _ _ (below4 (g := ga) _ _ _ _ hb hal) (fun hHeld => ?_)
     replace ha := set4 (.int .i64 (Ty.none_).k) (.int .i64 (Ty.none_).lo) (.int .i64 (Ty.none_).hi) (.string (Ty.none_).name) ha
     clear hb q0 q1 q2 q3 f0 f1 f2 f3 lga
     have hb := hHeld
     clear hK K
     refine Ord.go_tail ?_; simp only [List.drop_succ_cons, List.drop_zero]
     go_wp2_with fail
     refine ⟨rfl, db, gb, ga, ?_, ha, hb⟩
     simp only [putL, List.append_eq, List.cons_append, List.nil_append, Act.put, la3, la4, la5]
     try rfl
  ·
   apply Ord.go_done1
   next => (simp only [la0, la1, la2]; rfl)
   next => rfl
   intro K hK
   go_wp2_with fail
   obtain ⟨wq1, hx⟩ : ∃ q, wd0.alloc (.cells #[.int .i64 5, .int .i64 0, .string ⟨#[120]⟩, .string ⟨#[]⟩, .slice none 0 0] 29) = q := ⟨_, rfl⟩
   have hg := Aid.Has.new wd0 [.int .i64 5, .int .i64 0, .string ⟨#[120]⟩, .string ⟨#[]⟩, .slice none 0 0] 29
   have hb' := below_new wd0 (.cells #[.int .i64 5, .int .i64 0, .string ⟨#[120]⟩, .string ⟨#[]⟩, .slice none 0 0] 29)
   rw [hx] at hg hb' ⊢
   refine hK.out _ _ (hb.trans (hb'.mono hb.size)) (fun hHeld => ?_)
   generalize wd0.heap.size = gb at *
   clear hb hb'
   have hb := hHeld
   clear hx
   clear hK K
   try simp only [Act.put, la3, la4, la5]
   apply Ord.go_light (i := 4) (by kernel_rfl)
   next => (simp only [la0, la1, la2]; rfl)
   next => rfl
   next => (intro w' hSw; clear hSw; go_simp; first | done | with_reducible rfl)
   simp only [Act.put, la3, la4, la5]
   refine Ord.go_two (i := 0) (j := 9) (by kernel_rfl) (by kernel_rfl) ?_ ?_
   ·
    apply Ord.go_done1
    next => (simp only [List.getElem?_toArray, List.getElem?_cons_zero]; rfl)
    next => rfl
    intro K hK
    go_wp2_with fail
    refine (one_is _).mono ?_; rintro _ wq2 ⟨vb, db, rfl, hv, hd, hb'⟩; dsimp only
    refine hK.out _ _ (hb.trans (hb'.mono hb.size)) (fun hHeld => ?_)
    replace hg := hg.below hb' hg.lt
    clear hb hb'
    have hb := hHeld
    clear hK K
    try simp only [Act.put, la3, la4, la5]
    refine Ord.go_two (i := 1) (j := 9) (by kernel_rfl) (by kernel_rfl) ?_ ?_
    ·
     apply Ord.go_done1
     next => (simp only [la0, la1, la2]; rfl)
     next => rfl
     intro K hK
     go_wp2_with fail
     refine (body_is _).mono ?_; rintro _ wq3 ⟨rfl, hb'⟩; dsimp only
     refine hK.out _ _ (hb.trans (hb'.mono hb.size)) (fun hHeld => ?_)
     replace hv := hv.below hb' hv.lt
     replace hd := hd.below hb' hd.lt
     replace hg := hg.below hb' hg.lt
     clear hb hb'
     have hb := hHeld
     clear hK K
     try simp only [Act.put, la3, la4, la5]
     refine Ord.go_two (i := 5) (j := 9) (by kernel_rfl) (by kernel_rfl) ?_ ?_
     ·
      apply Ord.go_done1
      next => (simp only [la0, la1, la2]; rfl)
      next => rfl
      intro K hK
      go_wp2_with fail
      refine (Expr_prog 2 [Ty.oneD vb] (some ⟨db, 0, none⟩) _ 1 0 (Ty.oneD vb) (Ex.nx gb) (Ty.none_) 14 _ rfl rfl (by simp [Ty.oneD]) (one_at hv hd) (Nat.le_refl _) (exs_nx hg) (exlim_nx gb) (Ex.nx_is vb gb)).mono ?_; rintro _ wq4 ⟨rfl, hb'⟩; dsimp only
      refine hK.out _ _ (hb.trans (hb'.mono hb.size)) (fun hHeld => ?_)
      replace hv := hv.below hb' hv.lt
      replace hd := hd.below hb' hd.lt
      replace hg := hg.below hb' hg.lt
      clear hb hb'
      have hb := hHeld
      clear hK K
      try simp only [Act.put, la3, la4, la5]
      apply Ord.go_light (i := 6) (by kernel_rfl)
      next => (simp only [la0, la1, la2]; rfl)
      next => rfl
      next => (intro w' hSw; clear hSw; go_simp; first | done | with_reducible rfl)
      simp only [Act.put, la3, la4, la5]
      apply Ord.go_light (i := 7) (by kernel_rfl)
      next => (simp only [la0, la1, la2]; rfl)
      next => rfl
      next => (intro w' hSw; clear hSw; go_simp; first | done | with_reducible rfl)
      simp only [Act.put, la3, la4, la5]
      apply Ord.go_light (i := 8) (by kernel_rfl)
      next => (simp only [la0, la1, la2]; rfl)
      next => rfl
      next => (intro w' hSw; clear hSw; go_simp; first | done | with_reducible rfl)
      simp only [Act.put, la3, la4, la5]
      refine Ord.go_one (i := 9) (by kernel_rfl) (by kernel_rfl) ?_
      apply Ord.go_done1
      next => (simp only [la0, la1, la2]; rfl)
      next => rfl
      intro K hK
      go_wp2_with fail
      obtain ⟨wq5, hx⟩ : ∃ q, wq4.alloc (.cells #[.int .i64 0, .int .i64 0, .int .i64 0, .string ⟨#[]⟩] 36) = q := ⟨_, rfl⟩
      have ha := Aid.Has.new wq4 [.int .i64 0, .int .i64 0, .int .i64 0, .string ⟨#[]⟩] 36
      have hb' := below_new wq4 (.cells #[.int .i64 0, .int .i64 0, .int .i64 0, .string ⟨#[]⟩] 36)
      rw [hx] at ha hb' ⊢
      have hal : w2.heap.size ≤ wq4.heap.size := hb.size
      refine hK.out _ _ (hb.trans (hb'.mono hb.size)) (fun hHeld => ?_)
      replace hv := hv.below hb' hv.lt
      replace hd := hd.below hb' hd.lt
      replace hg := hg.below hb' hg.lt
      generalize wq4.heap.size = ga at *
      clear hb hb'
      have hb := hHeld
      clear hx
      clear hK K
      try simp only [Act.put, la3, la4, la5]
      refine Ord.go_one (i := 10) (by kernel_rfl) (by kernel_rfl) ?_
      apply Ord.go_done1
      next => (simp only [la0, la1, la2]; rfl)
      next => rfl
      intro K hK
      have q0 := ha.cell 0 _ rfl
      have q1 := ha.cell 1 _ rfl
      have q2 := ha.cell 2 _ rfl
      have q3 := ha.cell 3 _ rfl
      have f0 := ha.frozen 0
      have f1 := ha.frozen 1
      have f2 := ha.frozen 2
      have f3 := ha.frozen 3
      have lga := ha.lt
      go_wp2_with fail
      refine hK.out _ _ (below4 (g := ga) _ _ _ _ hb hal) (fun hHeld => ?_)
      replace ha := set4 (.int .i64 (Ty.none_).k) (.int .i64 (Ty.none_).lo) (.int .i64 (Ty.none_).hi) (.string (Ty.none_).name) ha
      clear hb q0 q1 q2 q3 f0 f1 f2 f3 lga
      have hb := hHeld
      clear hK K
      refine Ord.go_tail ?_; simp only [List.drop_succ_cons, List.drop_zero]
      go_wp2_with fail
      refine ⟨rfl, db, gb, ga, ?_, ha, hb⟩
      simp only [putL, List.append_eq, List.cons_append, List.nil_append, Act.put, la3, la4, la5]
      try rfl
     ·
      apply Ord.go_done1
      next => (simp only [la0, la1, la2]; rfl)
      next => rfl
      intro K hK
      go_wp2_with fail
      obtain ⟨wq4, hx⟩ : ∃ q, wq3.alloc (.cells #[.int .i64 0, .int .i64 0, .int .i64 0, .string ⟨#[]⟩] 36) = q := ⟨_, rfl⟩
      have ha := Aid.Has.new wq3 [.int .i64 0, .int .i64 0, .int .i64 0, .string ⟨#[]⟩] 36
      have hb' := below_new wq3 (.cells #[.int .i64 0, .int .i64 0, .int .i64 0, .string ⟨#[]⟩] 36)
      rw [hx] at ha hb' ⊢
      have hal : w2.heap.size ≤ wq3.heap.size := hb.size
      refine hK.out _ _ (hb.trans (hb'.mono hb.size)) (fun hHeld => ?_)
      replace hv := hv.below hb' hv.lt
      replace hd := hd.below hb' hd.lt
      replace hg := hg.below hb' hg.lt
      generalize wq3.heap.size = ga at *
      clear hb hb'
      have hb := hHeld
      clear hx
      clear hK K
      try simp only [Act.put, la3, la4, la5]
      refine Ord.go_one (i := 5) (by kernel_rfl) (by kernel_rfl) ?_
      apply Ord.go_done1
      next => (simp only [la0, la1, la2]; rfl)
      next => rfl
      intro K hK
      go_wp2_with fail
      refine (Expr_prog 2 [Ty.oneD vb] (some ⟨db, 0, none⟩) _ 1 0 (Ty.oneD vb) (Ex.nx gb) (Ty.none_) 14 _ rfl rfl (by simp [Ty.oneD]) (one_at hv hd) (Nat.le_refl _) (exs_nx hg) (exlim_nx gb) (Ex.nx_is vb gb)).mono ?_; rintro _ wq5 ⟨rfl, hb'⟩; dsimp only
      refine hK.out _ _ (hb.trans (hb'.mono hb.size)) (fun hHeld => ?_)
      replace hv := hv.below hb' hv.lt
      replace hd := hd.below hb' hd.lt
      replace hg := hg.below hb' hg.lt
      replace ha := ha.below hb' ha.lt
      clear hb hb'
      have hb := hHeld
      clear hK K
      try simp only [Act.put, la3, la4, la5]
      apply Ord.go_light (i := 6) (by kernel_rfl)
      next => (simp only [la0, la1, la2]; rfl)
      next => rfl
      next => (intro w' hSw; clear hSw; go_simp; first | done | with_reducible rfl)
      simp only [Act.put, la3, la4, la5]
      apply Ord.go_light (i := 7) (by kernel_rfl)
      next => (simp only [la0, la1, la2]; rfl)
      next => rfl
      next => (intro w' hSw; clear hSw; go_simp; first | done | with_reducible rfl)
      simp only [Act.put, la3, la4, la5]
      apply Ord.go_light (i := 8) (by kernel_rfl)
      next => (simp only [la0, la1, la2]; rfl)
      next => rfl
      next => (intro w' hSw; clear hSw; go_simp; first | done | with_reducible rfl)
      simp only [Act.put, la3, la4, la5]
      refine Ord.go_one (i := 10) (by kernel_rfl) (by kernel_rfl) ?_
      apply Ord.go_done1
      next => (simp only [la0, la1, la2]; rfl)
      next => rfl
      intro K hK
      have q0 := ha.cell 0 _ rfl
      have q1 := ha.cell 1 _ rfl
      have q2 := ha.cell 2 _ rfl
      have q3 := ha.cell 3 _ rfl
      have f0 := ha.frozen 0
      have f1 := ha.frozen 1
      have f2 := ha.frozen 2
      have f3 := ha.frozen 3
      have lga := ha.lt
      go_wp2_with fail
      refine hK.out _ _ (below4 (g := ga) _ _ _ _ hb hal) (fun hHeld => ?_)
      replace ha := set4 (.int .i64 (Ty.none_).k) (.int .i64 (Ty.none_).lo) (.int .i64 (Ty.none_).hi) (.string (Ty.none_).name) ha
      clear hb q0 q1 q2 q3 f0 f1 f2 f3 lga
      have hb := hHeld
      clear hK K
      refine Ord.go_tail ?_; simp only [List.drop_succ_cons, List.drop_zero]
      go_wp2_with fail
      refine ⟨rfl, db, gb, ga, ?_, ha, hb⟩
      simp only [putL, List.append_eq, List.cons_append, List.nil_append, Act.put, la3, la4, la5]
      try rfl
    ·
     apply Ord.go_done1
     next => (simp only [la0, la1, la2]; rfl)
     next => rfl
     intro K hK
     go_wp2_with fail
     obtain ⟨wq3, hx⟩ : ∃ q, wq2.alloc (.cells #[.int .i64 0, .int .i64 0, .int .i64 0, .string ⟨#[]⟩] 36) = q := ⟨_, rfl⟩
     have ha := Aid.Has.new wq2 [.int .i64 0, .int .i64 0, .int .i64 0, .string ⟨#[]⟩] 36
     have hb' := below_new wq2 (.cells #[.int .i64 0, .int .i64 0, .int .i64 0, .string ⟨#[]⟩] 36)
     rw [hx] at ha hb' ⊢
     have hal : w2.heap.size ≤ wq2.heap.size := hb.size
     refine hK.out _ _ (hb.trans (hb'.mono hb.size)) (fun hHeld => ?_)
     replace hv := hv.below hb' hv.lt
     replace hd := hd.below hb' hd.lt
     replace hg := hg.below hb' hg.lt
     generalize wq2.heap.size = ga at *
     clear hb hb'
     have hb := hHeld
     clear hx
     clear hK K
     try simp only [Act.put, la3, la4, la5]
     refine Ord.go_one (i := 1) (by kernel_rfl) (by kernel_rfl) ?_
     apply Ord.go_done1
     next => (simp only [la0, la1, la2]; rfl)
     next => rfl
     intro K hK
     go_wp2_with fail
     refine (body_is _).mono ?_; rintro _ wq4 ⟨rfl, hb'⟩; dsimp only
     refine hK.out _ _ (hb.trans (hb'.mono hb.size)) (fun hHeld => ?_)
     replace hv := hv.below hb' hv.lt
     replace hd := hd.below hb' hd.lt
     replace hg := hg.below hb' hg.lt
     replace ha := ha.below hb' ha.lt
     clear hb hb'
     have hb := hHeld
     clear hK K
     try simp only [Act.put, la3, la4, la5]
     refine Ord.go_one (i := 5) (by kernel_rfl) (by kernel_rfl) ?_
     apply Ord.go_done1
     next => (simp only [la0, la1, la2]; rfl)
     next => rfl
     intro K hK
     go_wp2_with fail
     refine (Expr_prog 2 [Ty.oneD vb] (some ⟨db, 0, none⟩) _ 1 0 (Ty.oneD vb) (Ex.nx gb) (Ty.none_) 14 _ rfl rfl (by simp [Ty.oneD]) (one_at hv hd) (Nat.le_refl _) (exs_nx hg) (exlim_nx gb) (Ex.nx_is vb gb)).mono ?_; rintro _ wq5 ⟨rfl, hb'⟩; dsimp only
     refine hK.out _ _ (hb.trans (hb'.mono hb.size)) (fun hHeld => ?_)
     replace hv := hv.below hb' hv.lt
     replace hd := hd.below hb' hd.lt
     replace hg := hg.below hb' hg.lt
     replace ha := ha.below hb' ha.lt
     clear hb hb'
     have hb := hHeld
     clear hK K
     try simp only [Act.put, la3, la4, la5]
     apply Ord.go_light (i := 6) (by kernel_rfl)
     next => (simp only [la0, la1, la2]; rfl)
     next => rfl
     next => (intro w' hSw; clear hSw; go_simp; first | done | with_reducible rfl)
     simp only [Act.put, la3, la4, la5]
     apply Ord.go_light (i := 7) (by kernel_rfl)
     next => (simp only [la0, la1, la2]; rfl)
     next => rfl
     next => (intro w' hSw; clear hSw; go_simp; first | done | with_reducible rfl)
     simp only [Act.put, la3, la4, la5]
     apply Ord.go_light (i := 8) (by kernel_rfl)
     next => (simp only [la0, la1, la2]; rfl)
     next => rfl
     next => (intro w' hSw; clear hSw; go_simp; first | done | with_reducible rfl)
     simp only [Act.put, la3, la4, la5]
     refine Ord.go_one (i := 10) (by kernel_rfl) (by kernel_rfl) ?_
     apply Ord.go_done1
     next => (simp only [la0, la1, la2]; rfl)
     next => rfl
     intro K hK
     have q0 := ha.cell 0 _ rfl
     have q1 := ha.cell 1 _ rfl
     have q2 := ha.cell 2 _ rfl
     have q3 := ha.cell 3 _ rfl
     have f0 := ha.frozen 0
     have f1 := ha.frozen 1
     have f2 := ha.frozen 2
     have f3 := ha.frozen 3
     have lga := ha.lt
     go_wp2_with fail
     refine hK.out _ _ (below4 (g := ga) _ _ _ _ hb hal) (fun hHeld => ?_)
     replace ha := set4 (.int .i64 (Ty.none_).k) (.int .i64 (Ty.none_).lo) (.int .i64 (Ty.none_).hi) (.string (Ty.none_).name) ha
     clear hb q0 q1 q2 q3 f0 f1 f2 f3 lga
     have hb := hHeld
     clear hK K
     refine Ord.go_tail ?_; simp only [List.drop_succ_cons, List.drop_zero]
     go_wp2_with fail
     refine ⟨rfl, db, gb, ga, ?_, ha, hb⟩
     simp only [putL, List.append_eq, List.cons_append, List.nil_append, Act.put, la3, la4, la5]
     try rfl
   ·
    apply Ord.go_done1
    next => (simp only [la0, la1, la2]; rfl)
    next => rfl
    intro K hK
    go_wp2_with fail
    obtain ⟨wq2, hx⟩ : ∃ q, wq1.alloc (.cells #[.int .i64 0, .int .i64 0, .int .i64 0, .string ⟨#[]⟩] 36) = q := ⟨_, rfl⟩
    have ha := Aid.Has.new wq1 [.int .i64 0, .int .i64 0, .int .i64 0, .string ⟨#[]⟩] 36
    have hb' := below_new wq1 (.cells #[.int .i64 0, .int .i64 0, .int .i64 0, .string ⟨#[]⟩] 36)
    rw [hx] at ha hb' ⊢
    have hal : w2.heap.size ≤ wq1.heap.size := hb.size
    refine hK.out _ _ (hb.trans (hb'.mono hb.size)) (fun hHeld => ?_)
    replace hg := hg.below hb' hg.lt
    generalize wq1.heap.size = ga at *
    clear hb hb'
    have hb := hHeld
    clear hx
    clear hK K
    try simp only [Act.put, la3, la4, la5]
    refine Ord.go_one (i := 0) (by kernel_rfl) (by kernel_rfl) ?_
    apply Ord.go_done1
    next => (simp only [List.getElem?_toArray, List.getElem?_cons_zero]; rfl)
    next => rfl
    intro K hK
    go_wp2_with fail
    refine (one_is _).mono ?_; rintro _ wq3 ⟨vb, db, rfl, hv, hd, hb'⟩; dsimp only
    refine hK.out _ _ (hb.trans (hb'.mono hb.size)) (fun hHeld => ?_)
    replace hg := hg.below hb' hg.lt
    replace ha := ha.below hb' ha.lt
    clear hb hb'
    have hb := hHeld
    clear hK K
    try simp only [Act.put, la3, la4, la5]
    refine Ord.go_one (i := 1) (by kernel_rfl) (by kernel_rfl) ?_
    apply Ord.go_done1
    next => (simp only [la0, la1, la2]; rfl)
    next => rfl
    intro K hK
    go_wp2_with fail
    refine (body_is _).mono ?_; rintro _ wq4 ⟨rfl, hb'⟩; dsimp only
    refine hK.out _ _ (hb.trans (hb'.mono hb.size)) (fun hHeld => ?_)
    replace hv := hv.below hb' hv.lt
    replace hd := hd.below hb' hd.lt
    replace hg := hg.below hb' hg.lt
    replace ha := ha.below hb' ha.lt
    clear hb hb'
    have hb := hHeld
    clear hK K
    try simp only [Act.put, la3, la4, la5]
    refine Ord.go_one (i := 5) (by kernel_rfl) (by kernel_rfl) ?_
    apply Ord.go_done1
    next => (simp only [la0, la1, la2]; rfl)
    next => rfl
    intro K hK
    go_wp2_with fail
    refine (Expr_prog 2 [Ty.oneD vb] (some ⟨db, 0, none⟩) _ 1 0 (Ty.oneD vb) (Ex.nx gb) (Ty.none_) 14 _ rfl rfl (by simp [Ty.oneD]) (one_at hv hd) (Nat.le_refl _) (exs_nx hg) (exlim_nx gb) (Ex.nx_is vb gb)).mono ?_; rintro _ wq5 ⟨rfl, hb'⟩; dsimp only
    refine hK.out _ _ (hb.trans (hb'.mono hb.size)) (fun hHeld => ?_)
    replace hv := hv.below hb' hv.lt
    replace hd := hd.below hb' hd.lt
    replace hg := hg.below hb' hg.lt
    replace ha := ha.below hb' ha.lt
    clear hb hb'
    have hb := hHeld
    clear hK K
    try simp only [Act.put, la3, la4, la5]
    apply Ord.go_light (i := 6) (by kernel_rfl)
    next => (simp only [la0, la1, la2]; rfl)
    next => rfl
    next => (intro w' hSw; clear hSw; go_simp; first | done | with_reducible rfl)
    simp only [Act.put, la3, la4, la5]
    apply Ord.go_light (i := 7) (by kernel_rfl)
    next => (simp only [la0, la1, la2]; rfl)
    next => rfl
    next => (intro w' hSw; clear hSw; go_simp; first | done | with_reducible rfl)
    simp only [Act.put, la3, la4, la5]
    apply Ord.go_light (i := 8) (by kernel_rfl)
    next => (simp only [la0, la1, la2]; rfl)
    next => rfl
    next => (intro w' hSw; clear hSw; go_simp; first | done | with_reducible rfl)
    simp only [Act.put, la3, la4, la5]
    refine Ord.go_one (i := 10) (by kernel_rfl) (by kernel_rfl) ?_
    apply Ord.go_done1
    next => (simp only [la0, la1, la2]; rfl)
    next => rfl
    intro K hK
    have q0 := ha.cell 0 _ rfl
    have q1 := ha.cell 1 _ rfl
    have q2 := ha.cell 2 _ rfl
    have q3 := ha.cell 3 _ rfl
    have f0 := ha.frozen 0
    have f1 := ha.frozen 1
    have f2 := ha.frozen 2
    have f3 := ha.frozen 3
    have lga := ha.lt
    go_wp2_with fail
    refine hK.out _ _ (below4 (g := ga) _ _ _ _ hb hal) (fun hHeld => ?_)
    replace ha := set4 (.int .i64 (Ty.none_).k) (.int .i64 (Ty.none_).lo) (.int .i64 (Ty.none_).hi) (.string (Ty.none_).name) ha
    clear hb q0 q1 q2 q3 f0 f1 f2 f3 lga
    have hb := hHeld
    clear hK K
    refine Ord.go_tail ?_; simp only [List.drop_succ_cons, List.drop_zero]
    go_wp2_with fail
    refine ⟨rfl, db, gb, ga, ?_, ha, hb⟩
    simp only [putL, List.append_eq, List.cons_append, List.nil_append, Act.put, la3, la4, la5]
    try rfl
  ·
   apply Ord.go_done1
   next => (simp only [la0, la1, la2]; rfl)
   next => rfl
   intro K hK
   go_wp2_with fail
   obtain ⟨wq1, hx⟩ : ∃ q, wd0.alloc (.cells #[.int .i64 0, .int .i64 0, .int .i64 0, .string ⟨#[]⟩] 36) = q := ⟨_, rfl⟩
   have ha := Aid.Has.new wd0 [.int .i64 0, .int .i64 0, .int .i64 0, .string ⟨#[]⟩] 36
   have hb' := below_new wd0 (.cells #[.int .i64 0, .int .i64 0, .int .i64 0, .string ⟨#[]⟩] 36)
   rw [hx] at ha hb' ⊢
   have hal : w2.heap.size ≤ wd0.heap.size := hb.size
   refine hK.out _ _ (hb.trans (hb'.mono hb.size)) (fun hHeld => ?_)
   generalize wd0.heap.size = ga at *
   clear hb hb'
   have hb := hHeld
   clear hx
   clear hK K
   try simp only [Act.put, la3, la4, la5]
   refine Ord.go_two (i := 0) (j := 3) (by kernel_rfl) (by kernel_rfl) ?_ ?_
   ·
    apply Ord.go_done1
    next => (simp only [List.getElem?_toArray, List.getElem?_cons_zero]; rfl)
    next => rfl
    intro K hK
    go_wp2_with fail
    refine (one_is _).mono ?_; rintro _ wq2 ⟨vb, db, rfl, hv, hd, hb'⟩; dsimp only
    refine hK.out _ _ (hb.trans (hb'.mono hb.size)) (fun hHeld => ?_)
    replace ha := ha.below hb' ha.lt
    clear hb hb'
    have hb := hHeld
    clear hK K
    try simp only [Act.put, la3, la4, la5]
    refine Ord.go_two (i := 1) (j := 3) (by kernel_rfl) (by kernel_rfl) ?_ ?_
    ·
     apply Ord.go_done1
     next => (simp only [la0, la1, la2]; rfl)
     next => rfl
     intro K hK
     go_wp2_with fail
     refine (body_is _).mono ?_; rintro _ wq3 ⟨rfl, hb'⟩; dsimp only
     refine hK.out _ _ (hb.trans (hb'.mono hb.size)) (fun hHeld => ?_)
     replace hv := hv.below hb' hv.lt
     replace hd := hd.below hb' hd.lt
     replace ha := ha.below hb' ha.lt
     clear hb hb'
     have hb := hHeld
     clear hK K
     try simp only [Act.put, la3, la4, la5]
     refine Ord.go_one (i := 3) (by kernel_rfl) (by kernel_rfl) ?_
     apply Ord.go_done1
     next => (simp only [la0, la1, la2]; rfl)
     next => rfl
     intro K hK
     go_wp2_with fail
     obtain ⟨wq4, hx⟩ : ∃ q, wq3.alloc (.cells #[.int .i64 5, .int .i64 0, .string ⟨#[120]⟩, .string ⟨#[]⟩, .slice none 0 0] 29) = q := ⟨_, rfl⟩
     have hg := Aid.Has.new wq3 [.int .i64 5, .int .i64 0, .string ⟨#[120]⟩, .string ⟨#[]⟩, .slice none 0 0] 29
     have hb' := below_new wq3 (.cells #[.int .i64 5, .int .i64 0, .string ⟨#[120]⟩, .string ⟨#[]⟩, .slice none 0 0] 29)
     rw [hx] at hg hb' ⊢
     refine hK.out _ _ (hb.trans (hb'.mono hb.size)) (fun hHeld => ?_)
     replace hv := hv.below hb' hv.lt
     replace hd := hd.below hb' hd.lt
     replace ha := ha.below hb' ha.lt
     generalize wq3.heap.size = gb at *
     clear hb hb'
     have hb := hHeld
     clear hx
     clear hK K
     try simp only [Act.put, la3, la4, la5]
     apply Ord.go_light (i := 4) (by kernel_rfl)
     next => (simp only [la0, la1, la2]; rfl)
     next => rfl
     next => (intro w' hSw; clear hSw; go_simp; first | done | with_reducible rfl)
     simp only [Act.put, la3, la4, la5]
     refine Ord.go_one (i := 5) (by kernel_rfl) (by kernel_rfl) ?_
     apply Ord.go_done1
     next => (simp only [la0, la1, la2]; rfl)
     next => rfl
     intro K hK
     go_wp2_with fail
     refine (Expr_prog 2 [Ty.oneD vb] (some ⟨db, 0, none⟩) _ 1 0 (Ty.oneD vb) (Ex.nx gb) (Ty.none_) 14 _ rfl rfl (by simp [Ty.oneD]) (one_at hv hd) (Nat.le_refl _) (exs_nx hg) (exlim_nx gb) (Ex.nx_is vb gb)).mono ?_; rintro _ wq5 ⟨rfl, hb'⟩; dsimp only
     refine hK.out _ _ (hb.trans (hb'.mono hb.size)) (fun hHeld => ?_)
     replace hv := hv.below hb' hv.lt
     replace hd := hd.below hb' hd.lt
     replace hg := hg.below hb' hg.lt
     replace ha := ha.below hb' ha.lt
     clear hb hb'
     have hb := hHeld
     clear hK K
     try simp only [Act.put, la3, la4, la5]
     apply Ord.go_light (i := 6) (by kernel_rfl)
     next => (simp only [la0, la1, la2]; rfl)
     next => rfl
     next => (intro w' hSw; clear hSw; go_simp; first | done | with_reducible rfl)
     simp only [Act.put, la3, la4, la5]
     apply Ord.go_light (i := 7) (by kernel_rfl)
     next => (simp only [la0, la1, la2]; rfl)
     next => rfl
     next => (intro w' hSw; clear hSw; go_simp; first | done | with_reducible rfl)
     simp only [Act.put, la3, la4, la5]
     apply Ord.go_light (i := 8) (by kernel_rfl)
     next => (simp only [la0, la1, la2]; rfl)
     next => rfl
     next => (intro w' hSw; clear hSw; go_simp; first | done | with_reducible rfl)
     simp only [Act.put, la3, la4, la5]
     refine Ord.go_one (i := 10) (by kernel_rfl) (by kernel_rfl) ?_
     apply Ord.go_done1
     next => (simp only [la0, la1, la2]; rfl)
     next => rfl
     intro K hK
     have q0 := ha.cell 0 _ rfl
     have q1 := ha.cell 1 _ rfl
     have q2 := ha.cell 2 _ rfl
     have q3 := ha.cell 3 _ rfl
     have f0 := ha.frozen 0
     have f1 := ha.frozen 1
     have f2 := ha.frozen 2
     have f3 := ha.frozen 3
     have lga := ha.lt
     go_wp2_with fail
     refine hK.out _ _ (below4 (g := ga) _ _ _ _ hb hal) (fun hHeld => ?_)
     replace ha := set4 (.int .i64 (Ty.none_).k) (.int .i64 (Ty.none_).lo) (.int .i64 (Ty.none_).hi) (.string (Ty.none_).name) ha
     clear hb q0 q1 q2 q3 f0 f1 f2 f3 lga
     have hb := hHeld
     clear hK K
     refine Ord.go_tail ?_; simp only [List.drop_succ_cons, List.drop_zero]
     go_wp2_with fail
     refine ⟨rfl, db, gb, ga, ?_, ha, hb⟩
     simp only [putL, List.append_eq, List.cons_append, List.nil_append, Act.put, la3, la4, la5]
     try rfl
    ·
     apply Ord.go_done1
     next => (simp only [la0, la1, la2]; rfl)
     next => rfl
     intro K hK
     go_wp2_with fail
     obtain ⟨wq3, hx⟩ : ∃ q, wq2.alloc (.cells #[.int .i64 5, .int .i64 0, .string ⟨#[120]⟩, .string ⟨#[]⟩, .slice none 0 0] 29) = q := ⟨_, rfl⟩
     have hg := Aid.Has.new wq2 [.int .i64 5, .int .i64 0, .string ⟨#[120]⟩, .string ⟨#[]⟩, .slice none 0 0] 29
     have hb' := below_new wq2 (.cells #[.int .i64 5, .int .i64 0, .string ⟨#[120]⟩, .string ⟨#[]⟩, .slice none 0 0] 29)
     rw [hx] at hg hb' ⊢
     refine hK.out _ _ (hb.trans (hb'.mono hb.size)) (fun hHeld => ?_)
     replace hv := hv.below hb' hv.lt
     replace hd := hd.below hb' hd.lt
     replace ha := ha.below hb' ha.lt
     generalize wq2.heap.size = gb at *
     clear hb hb'
     have hb := hHeld
     clear hx
     clear hK K
     try simp only [Act.put, la3, la4, la5]
     apply Ord.go_light (i := 4) (by kernel_rfl)
     next => (simp only [la0, la1, la2]; rfl)
     next => rfl
     next => (intro w' hSw; clear hSw; go_simp; first | done | with_reducible rfl)
     simp only [Act.put, la3, la4, la5]
     refine Ord.go_one (i := 1) (by kernel_rfl) (by kernel_rfl) ?_
     apply Ord.go_done1
     next => (simp only [la0, la1, la2]; rfl)
     next => rfl
     intro K hK
     go_wp2_with fail
     refine (body_is _).mono ?_; rintro _ wq4 ⟨rfl, hb'⟩; dsimp only
     refine hK.out _ _ (hb.trans (hb'.mono hb.size)) (fun hHeld => ?_)
     replace hv := hv.below hb' hv.lt
     replace hd := hd.below hb' hd.lt
     replace hg := hg.below hb' hg.lt
     replace ha := ha.below hb' ha.lt
     clear hb hb'
     have hb := hHeld
     clear hK K
     try simp only [Act.put, la3, la4, la5]
     refine Ord.go_one (i := 5) (by kernel_rfl) (by kernel_rfl) ?_
     apply Ord.go_done1
     next => (simp only [la0, la1, la2]; rfl)
     next => rfl
     intro K hK
     go_wp2_with fail
     refine (Expr_prog 2 [Ty.oneD vb] (some ⟨db, 0, none⟩) _ 1 0 (Ty.oneD vb) (Ex.nx gb) (Ty.none_) 14 _ rfl rfl (by simp [Ty.oneD]) (one_at hv hd) (Nat.le_refl _) (exs_nx hg) (exlim_nx gb) (Ex.nx_is vb gb)).mono ?_; rintro _ wq5 ⟨rfl, hb'⟩; dsimp only
     refine hK.out _ _ (hb.trans (hb'.mono hb.size)) (fun hHeld => ?_)
     replace hv := hv.below hb' hv.lt
     replace hd := hd.below hb' hd.lt
     replace hg := hg.below hb' hg.lt
     replace ha := ha.below hb' ha.lt
     clear hb hb'
     have hb := hHeld
     clear hK K
     try simp only [Act.put, la3, la4, la5]
     apply Ord.go_light (i := 6) (by kernel_rfl)
     next => (simp only [la0, la1, la2]; rfl)
     next => rfl
     next => (intro w' hSw; clear hSw; go_simp; first | done | with_reducible rfl)
     simp only [Act.put, la3, la4, la5]
     apply Ord.go_light (i := 7) (by kernel_rfl)
     next => (simp only [la0, la1, la2]; rfl)
     next => rfl
     next => (intro w' hSw; clear hSw; go_simp; first | done | with_reducible rfl)
     simp only [Act.put, la3, la4, la5]
     apply Ord.go_light (i := 8) (by kernel_rfl)
     next => (simp only [la0, la1, la2]; rfl)
     next => rfl
     next => (intro w' hSw; clear hSw; go_simp; first | done | with_reducible rfl)
     simp only [Act.put, la3, la4, la5]
     refine Ord.go_one (i := 10) (by kernel_rfl) (by kernel_rfl) ?_
     apply Ord.go_done1
     next => (simp only [la0, la1, la2]; rfl)
     next => rfl
     intro K hK
     have q0 := ha.cell 0 _ rfl
     have q1 := ha.cell 1 _ rfl
     have q2 := ha.cell 2 _ rfl
     have q3 := ha.cell 3 _ rfl
     have f0 := ha.frozen 0
     have f1 := ha.frozen 1
     have f2 := ha.frozen 2
     have f3 := ha.frozen 3
     have lga := ha.lt
     go_wp2_with fail
     refine hK.out _ _ (below4 (g := ga) _ _ _ _ hb hal) (fun hHeld => ?_)
     replace ha := set4 (.int .i64 (Ty.none_).k) (.int .i64 (Ty.none_).lo) (.int .i64 (Ty.none_).hi) (.string (Ty.none_).name) ha
     clear hb q0 q1 q2 q3 f0 f1 f2 f3 lga
     have hb := hHeld
     clear hK K
     refine Ord.go_tail ?_; simp only [List.drop_succ_cons, List.drop_zero]
     go_wp2_with fail
     refine ⟨rfl, db, gb, ga, ?_, ha, hb⟩
     simp only [putL, List.append_eq, List.cons_append, List.nil_append, Act.put, la3, la4, la5]
     try rfl
   ·
    apply Ord.go_done1
    next => (simp only [la0, la1, la2]; rfl)
    next => rfl
    intro K hK
    go_wp2_with fail
    obtain ⟨wq2, hx⟩ : ∃ q, wq1.alloc (.cells #[.int .i64 5, .int .i64 0, .string ⟨#[120]⟩, .string ⟨#[]⟩, .slice none 0 0] 29) = q := ⟨_, rfl⟩
    have hg := Aid.Has.new wq1 [.int .i64 5, .int .i64 0, .string ⟨#[120]⟩, .string ⟨#[]⟩, .slice none 0 0] 29
    have hb' := below_new wq1 (.cells #[.int .i64 5, .int .i64 0, .string ⟨#[120]⟩, .string ⟨#[]⟩, .slice none 0 0] 29)
    rw [hx] at hg hb' ⊢
    refine hK.out _ _ (hb.trans (hb'.mono hb.size)) (fun hHeld => ?_)
    replace ha := ha.below hb' ha.lt
    generalize wq1.heap.size = gb at *
    clear hb hb'
    have hb := hHeld
    clear hx
    clear hK K
    try simp only [Act.put, la3, la4, la5]
    apply Ord.go_light (i := 4) (by kernel_rfl)
    next => (simp only [la0, la1, la2]; rfl)
    next => rfl
    next => (intro w' hSw; clear hSw; go_simp; first | done | with_reducible rfl)
    simp only [Act.put, la3, la4, la5]
    refine Ord.go_one (i := 0) (by kernel_rfl) (by kernel_rfl) ?_
    apply Ord.go_done1
    next => (simp only [List.getElem?_toArray, List.getElem?_cons_zero]; rfl)
    next => rfl
    intro K hK
    go_wp2_with fail
    refine (one_is _).mono ?_; rintro _ wq3 ⟨vb, db, rfl, hv, hd, hb'⟩; dsimp only
    refine hK.out _ _ (hb.trans (hb'.mono hb.size)) (fun hHeld => ?_)
    replace hg := hg.below hb' hg.lt
    replace ha := ha.below hb' ha.lt
    clear hb hb'
    have hb := hHeld
    clear hK K
    try simp only [Act.put, la3, la4, la5]
    refine Ord.go_one (i := 1) (by kernel_rfl) (by kernel_rfl) ?_
    apply Ord.go_done1
    next => (simp only [la0, la1, la2]; rfl)
    next => rfl
    intro K hK
    go_wp2_with fail
    refine (body_is _).mono ?_; rintro _ wq4 ⟨rfl, hb'⟩; dsimp only
    refine hK.out _ _ (hb.trans (hb'.mono hb.size)) (fun hHeld => ?_)
    replace hv := hv.below hb' hv.lt
    replace hd := hd.below hb' hd.lt
    replace hg := hg.below hb' hg.lt
    replace ha := ha.below hb' ha.lt
    clear hb hb'
    have hb := hHeld
    clear hK K
    try simp only [Act.put, la3, la4, la5]
    refine Ord.go_one (i := 5) (by kernel_rfl) (by kernel_rfl) ?_
    apply Ord.go_done1
    next => (simp only [la0, la1, la2]; rfl)
    next => rfl
    intro K hK
    go_wp2_with fail
    refine (Expr_prog 2 [Ty.oneD vb] (some ⟨db, 0, none⟩) _ 1 0 (Ty.oneD vb) (Ex.nx gb) (Ty.none_) 14 _ rfl rfl (by simp [Ty.oneD]) (one_at hv hd) (Nat.le_refl _) (exs_nx hg) (exlim_nx gb) (Ex.nx_is vb gb)).mono ?_; rintro _ wq5 ⟨rfl, hb'⟩; dsimp only
    refine hK.out _ _ (hb.trans (hb'.mono hb.size)) (fun hHeld => ?_)
    replace hv := hv.below hb' hv.lt
    replace hd := hd.below hb' hd.lt
    replace hg := hg.below hb' hg.lt
    replace ha := ha.below hb' ha.lt
    clear hb hb'
    have hb := hHeld
    clear hK K
    try simp only [Act.put, la3, la4, la5]
    apply Ord.go_light (i := 6) (by kernel_rfl)
    next => (simp only [la0, la1, la2]; rfl)
    next => rfl
    next => (intro w' hSw; clear hSw; go_simp; first | done | with_reducible rfl)
    simp only [Act.put, la3, la4, la5]
    apply Ord.go_light (i := 7) (by kernel_rfl)
    next => (simp only [la0, la1, la2]; rfl)
    next => rfl
    next => (intro w' hSw; clear hSw; go_simp; first | done | with_reducible rfl)
    simp only [Act.put, la3, la4, la5]
    apply Ord.go_light (i := 8) (by kernel_rfl)
    next => (simp only [la0, la1, la2]; rfl)
    next => rfl
    next => (intro w' hSw; clear hSw; go_simp; first | done | with_reducible rfl)
    simp only [Act.put, la3, la4, la5]
    refine Ord.go_one (i := 10) (by kernel_rfl) (by kernel_rfl) ?_
    apply Ord.go_done1
    next => (simp only [la0, la1, la2]; rfl)
    next => rfl
    intro K hK
    have q0 := ha.cell 0 _ rfl
    have q1 := ha.cell 1 _ rfl
    have q2 := ha.cell 2 _ rfl
    have q3 := ha.cell 3 _ rfl
    have f0 := ha.frozen 0
    have f1 := ha.frozen 1
    have f2 := ha.frozen 2
    have f3 := ha.frozen 3
    have lga := ha.lt
    go_wp2_with fail
    refine hK.out _ _ (below4 (g := ga) _ _ _ _ hb hal) (fun hHeld => ?_)
    replace ha := set4 (.int .i64 (Ty.none_).k) (.int .i64 (Ty.none_).lo) (.int .i64 (Ty.none_).hi) (.string (Ty.none_).name) ha
    clear hb q0 q1 q2 q3 f0 f1 f2 f3 lga
    have hb := hHeld
    clear hK K
    refine Ord.go_tail ?_; simp only [List.drop_succ_cons, List.drop_zero]
    go_wp2_with fail
    refine ⟨rfl, db, gb, ga, ?_, ha, hb⟩
    simp only [putL, List.append_eq, List.cons_append, List.nil_append, Act.put, la3, la4, la5]
    try rfl
 rintro e' a' w3 ⟨rfl, db', g', g3, rfl, ha3, hb3⟩
 simp only [putL, List.append_eq, List.cons_append, List.nil_append, Act.put, la3, la4, la5]
 have ha := HA.out.below hb3 HA.out.lt
 have k3 := K1.out.trans (hb3.mono K1.out.size)
 have q0 := ha.cell 0 _ rfl
 have q1 := ha.cell 1 _ rfl
 have q2 := ha.cell 2 _ rfl
 have q3 := ha.cell 3 _ rfl
 have lq := ha.lt
 have K3 := Aid.hid k3
 clear n1 HA K1 NN1 ha ha3 hb3 k3
 go_wp2_with fail
 refine (one_is _).mono ?_; rintro _ w4 ⟨vb4, db4, rfl, hv4, hd4, hb4⟩
 have K4 := Aid.hid (K3.out.trans (hb4.mono K3.out.size))
 have HV4 := Aid.hid hv4; have HD4 := Aid.hid hd4
 clear q0 q1 q2 q3 lq hv4 hd4 hb4 K3
 go_wp2_with fail
 refine (body_is _).mono ?_; rintro _ w5 ⟨rfl, hb5⟩
 have k5 := K4.out.trans (hb5.mono K4.out.size)
 have hv5 := (HV4.out.below hb5 HV4.out.lt).alloc (.cells #[.int .i64 10, .int .i64 0, .string ⟨#[]⟩, .slice none 0 0, .slice none 0 0, .slice none 0 0] 58)
 have hd5 := (HD4.out.below hb5 HD4.out.lt).alloc (.cells #[.int .i64 10, .int .i64 0, .string ⟨#[]⟩, .slice none 0 0, .slice none 0 0, .slice none 0 0] 58)
 have k6 := k5.alloc k5.size (.cells #[.int .i64 10, .int .i64 0, .string ⟨#[]⟩, .slice none 0 0, .slice none 0 0, .slice none 0 0] 58)
 have hg6 := Aid.Has.new w5 [.int .i64 10, .int .i64 0, .string ⟨#[]⟩, .slice none 0 0, .slice none 0 0, .slice none 0 0] 58
 have HC := Aid.hid (Stmts_exit vb4 db4 w5.heap.size 1 _ hv5 hd5 hg6)
 have K6 := Aid.hid k6
 clear hb5 k5 hv5 hd5 k6 hg6 K4 HV4 HD4
 go_wp2_with fail
 refine HC.out.mono ?_; rintro _ w7 ⟨rfl, hb7⟩
 have K7 := Aid.hid (K6.out.trans (hb7.mono K6.out.size))
 clear hb7 HC K6
 go_wp2_with fail
 refine (one_is _).mono ?_; rintro _ w8 ⟨vb8, db8, rfl, hv8, hd8, hb8⟩
 have K8 := Aid.hid (K7.out.trans (hb8.mono K7.out.size))
 have HV8 := Aid.hid hv8; have HD8 := Aid.hid hd8
 clear hv8 hd8 hb8 K7
 go_wp2_with fail
 refine (body_is _).mono ?_; rintro _ w9 ⟨rfl, hb9⟩
 have K9 := Aid.hid (K8.out.trans (hb9.mono K8.out.size))
 have HC := Aid.hid (Visible_prog [Ty.oneD vb8] (some ⟨db8, 0, none⟩) _ 1 0 (Ty.oneD vb8) w9 rfl rfl (by simp [Ty.oneD]) (one_at (HV8.out.below hb9 HV8.out.lt) (HD8.out.below hb9 HD8.out.lt)) (Nat.le_refl _))
 clear hb9 HV8 HD8 K8
 go_wp2_with fail
 refine HC.out.mono ?_; rintro _ w10 ⟨A10, c10, rfl, _, hb10⟩
 have K10 := Aid.hid (K9.out.trans (hb10.mono K9.out.size))
 clear hb10 HC K9
 simp only [Ty.oneD, List.length_cons, List.length_nil]
 go_wp2_with fail
 go_ret
 exact ⟨by first | rfl | simp, K10.out⟩
end Go.Proofs.Ytmhdcehpddbjaaa
