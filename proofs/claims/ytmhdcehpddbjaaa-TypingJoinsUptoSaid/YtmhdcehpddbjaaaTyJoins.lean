import Derived.Test.YtmhdcehpddbjaaaTyY
import Derived.Test.YtmhdcehpddbjaaaTyO
import Derived.Test.YtmhdcehpddbjaaaGreatU
import Derived.WalkKit
import Derived.WalkSpells
import Derived.WalkLawsBesides
import Derived.LoopTactic
import Derived.Deep.QuietTactic
import Derived.BigQuiet
import Derived.Below
import Derived.Laws.ResultCell
import Derived.Laws.Tables
import Derived.Laws.Rows
import Derived.Deep.Cut
import Derived.KernelRfl
/- Statements one behind the other, as a law without a program. -/
namespace Go.Proofs.Ytmhdcehpddbjaaa

theorem Ty.stmts_append (p : Pl) (lo : Bool) : ∀ a b : List St, Ty.stmts p lo (a ++ b) = if Ty.stmts p lo a = 0 then Ty.stmts p lo b else Ty.stmts p lo a
  | [], b => by simp [Ty.stmts_nil]
  | s :: a, b => by
    rw [List.cons_append, Ty.stmts_cons, Ty.stmts_cons, Ty.stmts_append p lo a b]
    by_cases h : Ty.stmt p lo s = 0
    · simp [h]
    · simp [h]
theorem Ty.Stmts_append (u : List Dk) (x y : Int) (a b : List St) : Ty.Stmts u x y (a ++ b) = if Ty.Stmts u x y a = 0 then Ty.Stmts u x y b else Ty.Stmts u x y a := by
  cases h : Pl.at u x y with
  | none => simp [Ty.Stmts, h]
  | some p => simp only [Ty.Stmts, h]; exact Ty.stmts_append p false a b
/-- TRUE, and an If over two blocks. -/
def Ex.tt : Ex := .mk 2 0 ⟨#[]⟩ ⟨#[]⟩ none [] 0
def St.iff (eA : Option Addr) (ec : Nat) (bA : Option Addr) (bc : Nat) (a b : Bk) : St := .mk 5 0 ⟨#[]⟩ eA [Ex.tt] ec none [] 0 bA [a, b] bc
theorem Ex.tt_is (p : Pl) : Ty.expr p Ex.tt = (Ty.of 2, 0) := by kernel_rfl
theorem Ty.stmt_iff (p : Pl) (lo : Bool) (eA : Option Addr) (ec : Nat) (bA : Option Addr) (bc : Nat) (a b : Bk) :
    Ty.stmt p lo (St.iff eA ec bA bc a b) = if Ty.stmts p lo a.l = 0 then Ty.stmts p lo b.l else Ty.stmts p lo a.l := by
  rw [Ty.stmt_eq]
  have h1 : Ty.stmtG p lo (St.iff eA ec bA bc a b).k (St.iff eA ec bA bc a b).n (St.iff eA ec bA bc a b).name (St.iff eA ec bA bc a b).es (St.iff eA ec bA bc a b).ls ((St.iff eA ec bA bc a b).bs.map fun b => Ty.stmts p lo b.l) ((St.iff eA ec bA bc a b).bs.map fun b => Ty.stmts p true b.l) =
      Ty.choice [Ty.expr p Ex.tt] [Ty.stmts p lo a.l, Ty.stmts p lo b.l] := rfl
  rw [h1, Ex.tt_is]
  have h2 : (Ty.same (Ty.of 2, 0) 2).2 = 0 := by kernel_rfl
  rw [Ty.choice_cons, h2]
  by_cases h : Ty.stmts p lo a.l = 0
  · simp [h, Ty.choice]
  · simp [h]
theorem Ty.Stmts_iff (u : List Dk) (x y : Int) (eA : Option Addr) (ec : Nat) (bA : Option Addr) (bc : Nat) (a b : Bk) :
    Ty.Stmts u x y [St.iff eA ec bA bc a b] = if Ty.Stmts u x y a.l = 0 then Ty.Stmts u x y b.l else Ty.Stmts u x y a.l := by
  cases h : Pl.at u x y with
  | none => simp [Ty.Stmts, h]
  | some p =>
    simp only [Ty.Stmts, h]
    rw [Ty.stmts_cons, Ty.stmts_nil, Ty.stmt_iff]
    split <;> simp_all
end Go.Proofs.Ytmhdcehpddbjaaa
/- What lies below B lies below more; lists of statements laid one behind the other. -/
namespace Go.Proofs.Ytmhdcehpddbjaaa
open Go.RowKit

theorem ExsAt.wide {w : World} {B C : Nat} (hC : B ≤ C) : ∀ {f : Nat} {A : Option Addr} {l : List Ex}, ExsAt f w B A l → ExsAt f w C A l
  | 0, _, _, h => h
  | _ + 1, _, _, h => ⟨h.1, h.2.1.more hC, fun e he => ExsAt.wide hC (h.2.2 e he)⟩
theorem StsAt.wide {w : World} {B C : Nat} (hC : B ≤ C) : ∀ {f : Nat} {A : Option Addr} {l : List St}, StsAt f w B A l → StsAt f w C A l
  | 0, _, _, h => h
  | _ + 1, _, _, h => ⟨h.1, h.2.1.more hC, fun s hs => by
      obtain ⟨h1, ⟨h2, h3, h4⟩, h5, h6, h7⟩ := h.2.2 s hs
      exact ⟨h1.wide hC, ⟨h2, h3.more hC, fun x hx => ⟨(h4 x hx).1, (h4 x hx).2.more hC⟩⟩, h5, h6.more hC, fun b hb => StsAt.wide hC (h7 b hb)⟩⟩
theorem MdAt.wide {w : World} {B C : Nat} {m : Md} (h : MdAt w B m) (hC : B ≤ C) : MdAt w C m := ⟨h.params.more hC, h.vars.more hC, h.smallP, h.smallV, h.body.imp fun _ hf => hf.wide hC⟩
theorem DkAt.wide {w : World} {B C : Nat} {d : Dk} (h : DkAt w B d) (hC : B ≤ C) : DkAt w C d :=
  ⟨h.faces.more hC, h.vars.more hC, h.meths.more hC, fun m hm => (h.each m hm).wide hC, h.smallF, h.smallV, h.smallM, h.body.imp fun _ hf => hf.wide hC⟩
theorem UnitAt.wide {w : World} {B C : Nat} {a : Option Addr} {u : List Dk} (h : UnitAt w B a u) (hC : B ≤ C) : UnitAt w C a u :=
  ⟨h.rows.more hC, fun d hd => (h.decls d hd).wide hC, h.small⟩
theorem StsAt.rows {f : Nat} {w : World} {B : Nat} {A : Option Addr} {l : List St} (h : StsAt f w B A l) : Rows w B 6 A (l.map St.cells) := by
  cases f with
  | zero => obtain rfl : l = [] := h; exact Rows.nil_ _ _ _ _
  | succ f => exact h.2.1
theorem St.len (l : List St) : ∀ r ∈ l.map St.cells, r.length = 6 := by
  intro r hr; obtain ⟨p, _, rfl⟩ := List.mem_map.1 hr; rfl
theorem St.one {l : List St} : ∀ x ∈ (l.map St.cells).flatten, x.oneCell' = true := by
  intro x hx
  obtain ⟨r, hr, hx⟩ := List.mem_flatten.1 hx
  obtain ⟨p, _, rfl⟩ := List.mem_map.1 hr
  simp only [St.cells, List.mem_cons, List.not_mem_nil, or_false] at hx
  rcases hx with rfl | rfl | rfl | rfl | rfl | rfl <;> rfl
theorem StsAt.both {f : Nat} {w : World} {B : Nat} {A1 A2 A : Option Addr} {la lb : List St} (h1 : StsAt f w B A1 la) (h2 : StsAt f w B A2 lb) (hl : (la ++ lb).length ≤ 9223372036854775807) (hr : Rows w B 6 A ((la ++ lb).map St.cells)) : StsAt f w B A (la ++ lb) := by
  cases f with
  | zero =>
    obtain rfl : la = [] := h1
    obtain rfl : lb = [] := h2
    rfl
  | succ f =>
    refine ⟨hl, hr, fun s hs => ?_⟩
    rcases List.mem_append.1 hs with h | h
    · exact h1.2.2 s h
    · exact h2.2.2 s h
theorem StsLim.both {f : Nat} {la lb : List St} (h1 : StsLim f la) (h2 : StsLim f lb) : StsLim f (la ++ lb) := by
  cases f with
  | zero => trivial
  | succ f =>
    intro s hs
    rcases List.mem_append.1 hs with h | h
    · exact h1 s h
    · exact h2 s h
theorem info_st : (Try.prog.info? 58).map (fun i => (i.zero, i.size, i.bytes)) = some (some (.agg #[.int .i64 0, .int .i64 0, .string ⟨#[]⟩, .slice none 0 0, .slice none 0 0, .slice none 0 0]), 6, 104) := by kernel_rfl
theorem ExsAt.none_ (w : World) (B : Nat) : ∀ f : Nat, ExsAt f w B none []
  | 0 => rfl
  | _ + 1 => ⟨by simp, Rows.nil_ _ _ _ _, by simp⟩
theorem ExLim.none_ : ∀ f : Nat, ExLim f []
  | 0 => trivial
  | _ + 1 => ⟨by simp, by simp⟩
theorem iff_at {f : Nat} {w : World} {B : Nat} {A1 A2 : Option Addr} {la lb : List St} {c1 c2 e bl st : Nat} (hf : 0 < f) (h1 : StsAt f w B A1 la) (h2 : StsAt f w B A2 lb)
    (he : Aid.Has w e [.int .i64 2, .int .i64 0, .string ⟨#[]⟩, .string ⟨#[]⟩, .slice none 0 0] 29) (hbl : Aid.Has w bl ([.slice A1 la.length c1] ++ [.slice A2 lb.length c2]) 30)
    (hst : Aid.Has w st [.int .i64 5, .int .i64 0, .string ⟨#[]⟩, .slice (some ⟨e, 0, none⟩) 1 1, .slice none 0 0, .slice (some ⟨bl, 0, none⟩) 2 2] 58) (hB : B ≤ w.heap.size) :
    StsAt (f + 1) w w.heap.size (some ⟨st, 0, none⟩) [St.iff (some ⟨e, 0, none⟩) 1 (some ⟨bl, 0, none⟩) 2 (.mk A1 la c1) (.mk A2 lb c2)] := by
  obtain ⟨g, rfl⟩ : ∃ g, f = g + 1 := ⟨f - 1, by omega⟩
  refine ⟨by simp, rows_one hst hst.lt, fun s hs => ?_⟩
  obtain rfl : s = _ := by simpa using hs
  refine ⟨⟨by simp [St.iff, St.es], rows_one he he.lt, fun x hx => ?_⟩, ⟨by simp [St.iff, St.ls], Rows.nil_ _ _ _ _, fun x hx => by simp [St.iff, St.ls] at hx⟩, by simp [St.iff, St.bs], rows_two hbl rfl hbl.lt, fun b hb => ?_⟩
  · obtain rfl : x = Ex.tt := by simpa [St.iff, St.es] using hx
    exact ExsAt.none_ _ _ _
  · have hb' : b = Bk.mk A1 la c1 ∨ b = Bk.mk A2 lb c2 := by simpa [St.iff, St.bs] using hb
    rcases hb' with rfl | rfl
    · exact h1.wide hB
    · exact h2.wide hB
theorem iff_lim {f : Nat} {A1 A2 : Option Addr} {la lb : List St} {c1 c2 : Nat} (eA : Option Addr) (ec : Nat) (bA : Option Addr) (bc : Nat) (h1 : StsLim f la) (h2 : StsLim f lb) :
    StsLim (f + 1) [St.iff eA ec bA bc (.mk A1 la c1) (.mk A2 lb c2)] := fun s hs => by
  obtain rfl : s = _ := by simpa using hs
  refine ⟨⟨by simp [St.iff, St.es], by simp [St.iff, St.ls], by simp [St.iff, St.bs], by simp [St.iff, St.ls]⟩, ⟨by simp [St.iff, St.es], fun x hx => ?_⟩, fun n hn => by simp [St.iff, St.ls] at hn, fun b hb => ?_⟩
  · obtain rfl : x = Ex.tt := by simpa [St.iff, St.es] using hx
    exact ExLim.none_ _
  · have hb' : b = Bk.mk A1 la c1 ∨ b = Bk.mk A2 lb c2 := by simpa [St.iff, St.bs] using hb
    rcases hb' with rfl | rfl
    · exact h1
    · exact h2
end Go.Proofs.Ytmhdcehpddbjaaa
/- TypingJoins, as a walk. -/
namespace Go.Proofs.Ytmhdcehpddbjaaa
open Go.RowKit

set_option maxRecDepth 100000 in
set_option maxHeartbeats 4000000 in
theorem greatStmts_is (f : Nat) (A : Option Addr) (B c : Nat) (l : List St) (m : Int) (w : World) (h : StsAt f w B A l) (hB : B ≤ w.heap.size) :
    Calls Try.prog 11 #[.slice A l.length c, .int .i64 m] w fun z w' => Gr.Told w z w' := by
  have HC := Aid.hid (stmts_is f A B c l m _ w rfl h)
  clear h
  go_enter Try.func11, Try.ntmps11
  try simp only [List.append_eq, List.cons_append, List.nil_append]
  go_wp2_with fail
  refine HC.out.mono ?_; rintro _ w' ⟨rfl, rfl⟩
  go_wp2_with fail
  go_ret
  exact ⟨_, rfl, Below.refl _ _⟩
def Ty.J3 (a0 : Act) (uv wv s1 s2 : Value) (r1 r2 : Int) (W : World) (e : Exit) (a' : Act) (w' : World) : Prop :=
  e = .normal ∧ a' = putL a0 [(25, uv), (26, wv), (27, s1), (28, .int .i64 r1), (29, uv), (30, wv), (31, s2), (32, .int .i64 r2), (9, .int .i64 r1), (10, .int .i64 r2)] ∧ Below W.heap.size W w'
set_option maxRecDepth 100000 in
set_option maxHeartbeats 4000000 in
theorem joins_any (f : Nat) (u : List Dk) (a : Option Addr) (B cap : Nat) (x y : Int) (la lb : List St) (A1 A2 : Option Addr) (c1 c2 : Nat) (w : World) (hu : UnitAt w B a u) (hB : B ≤ w.heap.size) (hv : ∀ d ∈ u, d.vs.length ≤ 1048576) (hp : ∀ d ∈ u, ∀ m ∈ d.ms, m.ps.length ≤ 100000000 ∧ m.vs.length ≤ 100000000)
    (h1 : StsAt f w B A1 la) (h2 : StsAt f w B A2 lb) (l1 : StsLim f la) (l2 : StsLim f lb) (n1 : la.length ≤ 100000000) (n2 : lb.length ≤ 100000000) (hf : 0 < f) :
    Calls Try.prog 6 #[.agg #[.slice a u.length cap], .agg #[.int .i64 x, .int .i64 y], .slice A1 la.length c1, .slice A2 lb.length c2] w fun z w' => z = .returned (.bool true) ∧ Below w.heap.size w w' := by
  obtain ⟨n4, n5, k0⟩ := two_new w [.slice a u.length cap] [.int .i64 x, .int .i64 y] 24 26
  obtain ⟨W, hW⟩ : ∃ W, (w.alloc (.cells #[.slice a u.length cap] 24)).alloc (.cells #[.int .i64 x, .int .i64 y] 26) = W := ⟨_, rfl⟩
  rw [hW] at n4 n5 k0
  have x4 := n4.cell 0 _ rfl
  have x50 := n5.cell 0 _ rfl
  have x51 := n5.cell 1 _ rfl
  have l4 := n4.lt
  have l5 := n5.lt
  have K0 := Aid.hid k0
  have N4 := Aid.hid n4; have N5 := Aid.hid n5
  have HU := Aid.hid hu; have HV := Aid.hid hv; have HP := Aid.hid hp; have H1 := Aid.hid h1; have H2 := Aid.hid h2; have L1 := Aid.hid l1; have L2 := Aid.hid l2
  clear n4 n5 k0 hu hv hp h1 h2 l1 l2
  by_cases hn : 16 < u.length
  · have HG := Aid.hid (greatUnit_big a u.length cap W hn)
    clear hn
    go_enter Try.func6, Try.ntmps6
    try simp only [List.append_eq, List.cons_append, List.nil_append]
    go_wp2_with fail
    clear hW
    refine HG.out.mono ?_; rintro _ w2 ⟨rfl, hb2⟩
    have K2 := Aid.hid (K0.out.trans (hb2.mono K0.out.size))
    clear hb2
    go_wp2_with fail
    refine (awake_is _).mono ?_; rintro _ w99 ⟨rfl, hb99⟩
    have K99 := Aid.hid ((K2.out).trans (hb99.mono (K2.out).size))
    clear hb99
    go_wp2_with fail
    go_ret
    exact ⟨rfl, K99.out⟩
  · have hn' : u.length ≤ 16 := by omega
    have HG := Aid.hid (greatUnit_is u a B cap W (HU.out.below K0.out hB) (Nat.le_trans hB K0.out.size) hn')
    have HN := Aid.hid hn'
    clear hn hn'
    go_enter Try.func6, Try.ntmps6
    try simp only [List.append_eq, List.cons_append, List.nil_append]
    go_wp2_with fail
    clear hW
    refine HG.out.mono ?_; rintro _ w2 ⟨r, rfl, hb2⟩
    have K2 := Aid.hid (K0.out.trans (hb2.mono K0.out.size))
    have HG1 := Aid.hid (greatStmts_is f A1 B c1 la 60 w2 (H1.out.below K2.out hB) (Nat.le_trans hB K2.out.size))
    have M4 := Aid.hid (N4.out.below hb2 N4.out.lt); have M5 := Aid.hid (N5.out.below hb2 N5.out.lt)
    clear hb2 x4 x50 x51 l4 l5 N4 N5 HG
    cases r
    · go_wp2_with fail
      refine HG1.out.mono ?_; rintro _ w3 ⟨r3, rfl, hb3⟩
      have K3 := Aid.hid (K2.out.trans (hb3.mono K2.out.size))
      have HG2 := Aid.hid (greatStmts_is f A2 B c2 lb 60 w3 (H2.out.below K3.out hB) (Nat.le_trans hB K3.out.size))
      have N4 := Aid.hid (M4.out.below hb3 M4.out.lt); have N5 := Aid.hid (M5.out.below hb3 M5.out.lt)
      clear hb3 HG1 M4 M5
      cases r3
      · go_wp2_with fail
        refine HG2.out.mono ?_; rintro _ w4 ⟨r4, rfl, hb4⟩
        have K4 := Aid.hid (K3.out.trans (hb4.mono K3.out.size))
        have M4 := Aid.hid (N4.out.below hb4 N4.out.lt); have M5 := Aid.hid (N5.out.below hb4 N5.out.lt)
        clear hb4 HG2 N4 N5
        cases r4
        · go_wp2_with fail
          have HUL : Hid (ULim u) := Aid.hid ⟨by have := HN.out; omega, HV.out, HP.out⟩
          obtain ⟨r1, hr1⟩ : ∃ r1, Ty.Stmts u x y la = r1 := ⟨_, rfl⟩
          obtain ⟨r2, hr2⟩ : ∃ r2, Ty.Stmts u x y lb = r2 := ⟨_, rfl⟩
          have HR1 := Aid.hid hr1
          have HR2 := Aid.hid hr2
          clear hr1 hr2
          have x4 := M4.out.cell 0 _ rfl
          have x50 := M5.out.cell 0 _ rfl
          have x51 := M5.out.cell 1 _ rfl
          have m4 := M4.out.lt
          have m5 := M5.out.lt
          refine wp_cut (fun a0 => Ty.J3 a0 (.agg #[.slice a u.length cap]) (.agg #[.int .i64 x, .int .i64 y]) (.slice A1 la.length c1) (.slice A2 lb.length c2) r1 r2 w4) ?_ ?_
          · have hb : Below w4.heap.size w4 w4.drew := (Below.refl _ _).drew
            refine Ord.wp_region_go (fun w' => Below w4.heap.size w4 w') 8 [0, 1, 2, 4, 5, 6] (by kernel_rfl) (by kernel_rfl) (fun _ _ _ _ _ h => by cases h.1) (hb) ?_
            clear hb
            have hb : Below w4.heap.size w4 w4.drew := (Below.refl _ _).drew
            generalize w4.drew = wd0 at *
            apply Ord.go_light (i := 0) (by kernel_rfl)
            next => (simp only [List.getElem?_toArray, List.getElem?_cons_zero]; rfl)
            next => rfl
            next => (intro w' hSw; have z0 := (hSw.cell (p := ⟨w.heap.size, 0, none⟩) m4).trans x4; have z50 := (hSw.cell (p := ⟨w.heap.size + 1, 0, none⟩) m5).trans x50; have z51 := (hSw.cell (p := ⟨w.heap.size + 1, 1, none⟩) m5).trans x51; clear hSw; go_simp; first | done | with_reducible rfl)
            simp only [Act.put, List.setIfInBounds_toArray, List.set_cons_zero, List.set_cons_succ]
            apply Ord.go_light (i := 1) (by kernel_rfl)
            next => (simp only [List.getElem?_toArray, List.getElem?_cons_succ, List.getElem?_cons_zero]; rfl)
            next => rfl
            next => (intro w' hSw; have z0 := (hSw.cell (p := ⟨w.heap.size, 0, none⟩) m4).trans x4; have z50 := (hSw.cell (p := ⟨w.heap.size + 1, 0, none⟩) m5).trans x50; have z51 := (hSw.cell (p := ⟨w.heap.size + 1, 1, none⟩) m5).trans x51; clear hSw; go_simp; first | done | with_reducible rfl)
            simp only [Act.put, List.setIfInBounds_toArray, List.set_cons_zero, List.set_cons_succ]
            apply Ord.go_light (i := 2) (by kernel_rfl)
            next => (simp only [List.getElem?_toArray, List.getElem?_cons_succ, List.getElem?_cons_zero]; rfl)
            next => rfl
            next => (intro w' hSw; have z0 := (hSw.cell (p := ⟨w.heap.size, 0, none⟩) m4).trans x4; have z50 := (hSw.cell (p := ⟨w.heap.size + 1, 0, none⟩) m5).trans x50; have z51 := (hSw.cell (p := ⟨w.heap.size + 1, 1, none⟩) m5).trans x51; clear hSw; go_simp; first | done | with_reducible rfl)
            simp only [Act.put, List.setIfInBounds_toArray, List.set_cons_zero, List.set_cons_succ]
            apply Ord.go_light (i := 4) (by kernel_rfl)
            next => (simp only [List.getElem?_toArray, List.getElem?_cons_succ, List.getElem?_cons_zero]; rfl)
            next => rfl
            next => (intro w' hSw; have z0 := (hSw.cell (p := ⟨w.heap.size, 0, none⟩) m4).trans x4; have z50 := (hSw.cell (p := ⟨w.heap.size + 1, 0, none⟩) m5).trans x50; have z51 := (hSw.cell (p := ⟨w.heap.size + 1, 1, none⟩) m5).trans x51; clear hSw; go_simp; first | done | with_reducible rfl)
            simp only [Act.put, List.setIfInBounds_toArray, List.set_cons_zero, List.set_cons_succ]
            apply Ord.go_light (i := 5) (by kernel_rfl)
            next => (simp only [List.getElem?_toArray, List.getElem?_cons_succ, List.getElem?_cons_zero]; rfl)
            next => rfl
            next => (intro w' hSw; have z0 := (hSw.cell (p := ⟨w.heap.size, 0, none⟩) m4).trans x4; have z50 := (hSw.cell (p := ⟨w.heap.size + 1, 0, none⟩) m5).trans x50; have z51 := (hSw.cell (p := ⟨w.heap.size + 1, 1, none⟩) m5).trans x51; clear hSw; go_simp; first | done | with_reducible rfl)
            simp only [Act.put, List.setIfInBounds_toArray, List.set_cons_zero, List.set_cons_succ]
            apply Ord.go_light (i := 6) (by kernel_rfl)
            next => (simp only [List.getElem?_toArray, List.getElem?_cons_succ, List.getElem?_cons_zero]; rfl)
            next => rfl
            next => (intro w' hSw; have z0 := (hSw.cell (p := ⟨w.heap.size, 0, none⟩) m4).trans x4; have z50 := (hSw.cell (p := ⟨w.heap.size + 1, 0, none⟩) m5).trans x50; have z51 := (hSw.cell (p := ⟨w.heap.size + 1, 1, none⟩) m5).trans x51; clear hSw; go_simp; first | done | with_reducible rfl)
            simp only [Act.put, List.setIfInBounds_toArray, List.set_cons_zero, List.set_cons_succ]
            refine Ord.go_one (i := 3) (by kernel_rfl) (by kernel_rfl) ?_
            apply Ord.go_done1
            next => (simp only [List.getElem?_toArray, List.getElem?_cons_succ, List.getElem?_cons_zero]; rfl)
            next => rfl
            intro K hK
            go_wp2_with fail
            refine (Stmts_is f u a B cap x y A1 la c1 _ _ HR1.out (HU.out.below (K4.out.trans (hb.mono K4.out.size)) hB) (Nat.le_trans hB (Nat.le_trans K4.out.size hb.size)) HUL.out L1.out (H1.out.below (K4.out.trans (hb.mono K4.out.size)) hB)).mono ?_; rintro _ w9 ⟨rfl, hb'⟩; dsimp only
            refine hK.out _ _ (hb.trans (hb'.mono hb.size)) (fun hHeld => ?_)
            clear hb hb'
            have hb := hHeld
            clear hK K
            try simp only [Act.put, List.setIfInBounds_toArray, List.set_cons_zero, List.set_cons_succ]
            refine Ord.go_one (i := 7) (by kernel_rfl) (by kernel_rfl) ?_
            apply Ord.go_done1
            next => (simp only [List.getElem?_toArray, List.getElem?_cons_succ, List.getElem?_cons_zero]; rfl)
            next => rfl
            intro K hK
            go_wp2_with fail
            refine (Stmts_is f u a B cap x y A2 lb c2 _ _ HR2.out (HU.out.below (K4.out.trans (hb.mono K4.out.size)) hB) (Nat.le_trans hB (Nat.le_trans K4.out.size hb.size)) HUL.out L2.out (H2.out.below (K4.out.trans (hb.mono K4.out.size)) hB)).mono ?_; rintro _ w9 ⟨rfl, hb'⟩; dsimp only
            refine hK.out _ _ (hb.trans (hb'.mono hb.size)) (fun hHeld => ?_)
            clear hb hb'
            have hb := hHeld
            clear hK K
            try simp only [Act.put, List.setIfInBounds_toArray, List.set_cons_zero, List.set_cons_succ]
            refine Ord.go_tail ?_; simp only [List.drop_succ_cons, List.drop_zero]
            go_wp2_with fail
            refine ⟨rfl, ?_, hb⟩
            simp only [putL, Act.put, List.setIfInBounds_toArray, List.set_cons_zero, List.set_cons_succ]
            try rfl
          rintro e' a' w5 ⟨rfl, rfl, hb5⟩
          simp only [putL, Act.put, List.setIfInBounds_toArray, List.set_cons_zero, List.set_cons_succ]
          have N4 := Aid.hid (M4.out.below hb5 M4.out.lt); have N5 := Aid.hid (M5.out.below hb5 M5.out.lt)
          have K5 := Aid.hid (K4.out.trans (hb5.mono K4.out.size))
          clear hb5 x4 x50 x51 m4 m5 M4 M5
          have x4 := N4.out.cell 0 _ rfl
          have x50 := N5.out.cell 0 _ rfl
          have x51 := N5.out.cell 1 _ rfl
          have m4 := N4.out.lt
          have m5 := N5.out.lt
          obtain ⟨i0, hi, hz0, hz1, hz2⟩ := info_parts info_st
          have RD1 : Hid (Reads w B 6 A1 la.length (la.map St.cells).flatten) := Aid.hid (by have h := Rows.reads (St.len la) H1.out.rows; rwa [List.length_map] at h)
          have RD2 : Hid (Reads w B 6 A2 lb.length (lb.map St.cells).flatten) := Aid.hid (by have h := Rows.reads (St.len lb) H2.out.rows; rwa [List.length_map] at h)
          obtain ⟨lab, hlab⟩ : ∃ l, la ++ lb = l := ⟨_, rfl⟩
          have HLAB := Aid.hid hlab
          clear hlab
          obtain ⟨r3, hr3⟩ : ∃ r3, Ty.Stmts u x y lab = r3 := ⟨_, rfl⟩
          have HR3 := Aid.hid hr3
          clear hr3
          go_wp2_with fail
          have hb : Below w5.heap.size w5 w5.drew := (Below.refl _ _).drew
          refine Ord.wp_region_go (fun w' => Below w5.heap.size w5 w') 7 [0, 1, 2, 4] (by kernel_rfl) (by kernel_rfl) (fun _ _ d _ _ h => by cases d <;> exact h) (hb) ?_
          clear hb
          have hb : Below w5.heap.size w5 w5.drew := (Below.refl _ _).drew
          generalize w5.drew = wd0 at *
          apply Ord.go_light (i := 0) (by kernel_rfl)
          next => (simp only [List.getElem?_toArray, List.getElem?_cons_zero]; rfl)
          next => rfl
          next => (intro w' hSw; have z0 := (hSw.cell (p := ⟨w.heap.size, 0, none⟩) m4).trans x4; have z50 := (hSw.cell (p := ⟨w.heap.size + 1, 0, none⟩) m5).trans x50; have z51 := (hSw.cell (p := ⟨w.heap.size + 1, 1, none⟩) m5).trans x51; clear hSw; go_simp; first | done | with_reducible rfl)
          simp only [Act.put, List.setIfInBounds_toArray, List.set_cons_zero, List.set_cons_succ]
          apply Ord.go_light (i := 1) (by kernel_rfl)
          next => (simp only [List.getElem?_toArray, List.getElem?_cons_succ, List.getElem?_cons_zero]; rfl)
          next => rfl
          next => (intro w' hSw; have z0 := (hSw.cell (p := ⟨w.heap.size, 0, none⟩) m4).trans x4; have z50 := (hSw.cell (p := ⟨w.heap.size + 1, 0, none⟩) m5).trans x50; have z51 := (hSw.cell (p := ⟨w.heap.size + 1, 1, none⟩) m5).trans x51; clear hSw; go_simp; first | done | with_reducible rfl)
          simp only [Act.put, List.setIfInBounds_toArray, List.set_cons_zero, List.set_cons_succ]
          apply Ord.go_light (i := 2) (by kernel_rfl)
          next => (simp only [List.getElem?_toArray, List.getElem?_cons_succ, List.getElem?_cons_zero]; rfl)
          next => rfl
          next => (intro w' hSw; have z0 := (hSw.cell (p := ⟨w.heap.size, 0, none⟩) m4).trans x4; have z50 := (hSw.cell (p := ⟨w.heap.size + 1, 0, none⟩) m5).trans x50; have z51 := (hSw.cell (p := ⟨w.heap.size + 1, 1, none⟩) m5).trans x51; clear hSw; go_simp; first | done | with_reducible rfl)
          simp only [Act.put, List.setIfInBounds_toArray, List.set_cons_zero, List.set_cons_succ]
          apply Ord.go_light (i := 4) (by kernel_rfl)
          next => (simp only [List.getElem?_toArray, List.getElem?_cons_succ, List.getElem?_cons_zero]; rfl)
          next => rfl
          next => (intro w' hSw; have z0 := (hSw.cell (p := ⟨w.heap.size, 0, none⟩) m4).trans x4; have z50 := (hSw.cell (p := ⟨w.heap.size + 1, 0, none⟩) m5).trans x50; have z51 := (hSw.cell (p := ⟨w.heap.size + 1, 1, none⟩) m5).trans x51; clear hSw; go_simp; first | done | with_reducible rfl)
          simp only [Act.put, List.setIfInBounds_toArray, List.set_cons_zero, List.set_cons_succ]
          refine Ord.go_one (i := 3) (by kernel_rfl) (by kernel_rfl) ?_
          apply Ord.go_done1
          next => (simp only [List.getElem?_toArray, List.getElem?_cons_succ, List.getElem?_cons_zero]; rfl)
          next => rfl
          intro K hK
          refine wp_append_any _ _ _ _ rfl w5.heap.size 58 i0 (.agg #[.int .i64 0, .int .i64 0, .string ⟨#[]⟩, .slice none 0 0, .slice none 0 0, .slice none 0 0]) 6 104 Try.underlying30 hi hz0 hz1 hz2 rfl (by decide) _ 0 [] rfl (World.ownsRow_nil _ _ _ _) B _ la.length _ (la.map St.cells).flatten rfl (RD1.out.below ((K5.out.trans (hb.mono K5.out.size)).mono hB)) St.one (by unfold maxLen; omega) (by omega) hb.size ?_
          intro v1 w6 own1 grow1 _
          have hb1 := hb.grown grow1 hb.size (fun q hq => by cases hq)
          simp only [Nat.zero_add, List.nil_append] at own1
          refine hK.out _ _ hb1 (fun _ => ?_)
          clear hb grow1
          have hb := hb1
          clear hb1
          clear hK K
          try simp only [Act.put, List.setIfInBounds_toArray, List.set_cons_zero, List.set_cons_succ]
          refine Ord.go_one (i := 5) (by kernel_rfl) (by kernel_rfl) ?_
          apply Ord.go_done1
          next => (simp only [List.getElem?_toArray, List.getElem?_cons_succ, List.getElem?_cons_zero]; rfl)
          next => rfl
          intro K hK
          refine wp_append_any _ _ _ _ rfl w5.heap.size 58 i0 (.agg #[.int .i64 0, .int .i64 0, .string ⟨#[]⟩, .slice none 0 0, .slice none 0 0, .slice none 0 0]) 6 104 Try.underlying30 hi hz0 hz1 hz2 rfl (by decide) v1 la.length (la.map St.cells).flatten rfl own1 B _ lb.length _ (lb.map St.cells).flatten rfl (RD2.out.below ((K5.out.trans (hb.mono K5.out.size)).mono hB)) St.one (by unfold maxLen; omega) (by omega) hb.size ?_
          intro v2 w7 own2 grow2 _
          have hb1 := hb.grown grow2 hb.size (fun q hq => (own1.lt q hq).1)
          refine hK.out _ _ hb1 (fun _ => ?_)
          clear hb grow2 own1
          have hb := hb1
          clear hb1
          obtain ⟨A7, c7, rfl⟩ := own_slice own2
          have el : la.length + lb.length = lab.length := by rw [← HLAB.out]; simp
          rw [el] at own2 ⊢
          have HSB : Hid (StsAt f w7 w7.heap.size A7 lab) := Aid.hid (HLAB.out ▸ StsAt.both ((H1.out.below (K5.out.trans (hb.mono K5.out.size)) hB).wide (Nat.le_trans hB (Nat.le_trans K5.out.size hb.size))) ((H2.out.below (K5.out.trans (hb.mono K5.out.size)) hB).wide (Nat.le_trans hB (Nat.le_trans K5.out.size hb.size))) (by simp only [List.length_append]; omega) (Rows.of_own (rows := (la ++ lb).map St.cells) (St.len _) (by rw [List.length_map, List.map_append, List.flatten_append, HLAB.out]; exact own2)))
          clear own2 el
          clear hK K
          try simp only [Act.put, List.setIfInBounds_toArray, List.set_cons_zero, List.set_cons_succ]
          refine Ord.go_one (i := 6) (by kernel_rfl) (by kernel_rfl) ?_
          apply Ord.go_done1
          next => (simp only [List.getElem?_toArray, List.getElem?_cons_succ, List.getElem?_cons_zero]; rfl)
          next => rfl
          intro K hK
          go_wp2_with fail
          refine (Stmts_is f u a w7.heap.size cap x y A7 lab c7 _ _ HR3.out ((HU.out.below (K5.out.trans (hb.mono K5.out.size)) hB).wide (Nat.le_trans hB (Nat.le_trans K5.out.size hb.size))) (Nat.le_refl _) HUL.out (HLAB.out ▸ StsLim.both L1.out L2.out) HSB.out).mono ?_; rintro _ w8 ⟨rfl, hb'⟩; dsimp only
          refine hK.out _ _ (hb.trans (hb'.mono hb.size)) (fun hHeld => ?_)
          clear hb hb' HSB
          have hb := hHeld
          clear hK K
          try simp only [Act.put, List.setIfInBounds_toArray, List.set_cons_zero, List.set_cons_succ]
          refine Ord.go_tail ?_; simp only [List.drop_succ_cons, List.drop_zero]
          have K8 := Aid.hid (K5.out.trans (hb.mono K5.out.size))
          have M4 := Aid.hid (N4.out.below hb N4.out.lt)
          have M5 := Aid.hid (N5.out.below hb N5.out.lt)
          clear hb x4 x50 x51 m4 m5 N4 N5 hi hz0 hz1 hz2 RD1 RD2
          have x4 := M4.out.cell 0 _ rfl
          have x50 := M5.out.cell 0 _ rfl
          have x51 := M5.out.cell 1 _ rfl
          have m4 := M4.out.lt
          have m5 := M5.out.lt
          obtain ⟨g1, g2, g3, kq⟩ := three_new w8 [.int .i64 2, .int .i64 0, .string ⟨#[]⟩, .string ⟨#[]⟩, .slice none 0 0] [.slice A1 la.length c1, .slice A2 lb.length c2] [.int .i64 5, .int .i64 0, .string ⟨#[]⟩, .slice (some ⟨w8.heap.size, 0, none⟩) 1 1, .slice none 0 0, .slice (some ⟨w8.heap.size + 1, 0, none⟩) 2 2] 29 30 58
          obtain ⟨w9, hw9⟩ : ∃ w9, ((w8.alloc (.cells #[.int .i64 2, .int .i64 0, .string ⟨#[]⟩, .string ⟨#[]⟩, .slice none 0 0] 29)).alloc (.cells #[.slice A1 la.length c1, .slice A2 lb.length c2] 30)).alloc (.cells #[.int .i64 5, .int .i64 0, .string ⟨#[]⟩, .slice (some ⟨w8.heap.size, 0, none⟩) 1 1, .slice none 0 0, .slice (some ⟨w8.heap.size + 1, 0, none⟩) 2 2] 58) = w9 := ⟨_, rfl⟩
          rw [hw9] at g1 g2 g3 kq
          have G1 := Aid.hid g1; have G2 := Aid.hid g2; have G3 := Aid.hid g3
          have K9 := Aid.hid (K8.out.trans (kq.mono K8.out.size))
          clear g1 g2 g3 kq
          by_cases h0 : r1 = 0
          ·
            obtain rfl : r2 = r3 := by symm; rw [← HR3.out, ← HLAB.out, Ty.Stmts_append, HR1.out, if_pos h0]; exact HR2.out
            have HC9 := Aid.hid (Stmts_is (f + 1) u a w9.heap.size cap x y (some ⟨w8.heap.size + 1 + 1, 0, none⟩) [St.iff (some ⟨w8.heap.size, 0, none⟩) 1 (some ⟨w8.heap.size + 1, 0, none⟩) 2 (.mk A1 la c1) (.mk A2 lb c2)] 1 r2 w9 (by rw [Ty.Stmts_iff]; show (if Ty.Stmts u x y la = 0 then Ty.Stmts u x y lb else Ty.Stmts u x y la) = _; rw [HR1.out, if_pos h0]; exact HR2.out) ((HU.out.below K9.out hB).wide (Nat.le_trans hB K9.out.size)) (Nat.le_refl _) HUL.out (iff_lim _ _ _ _ L1.out L2.out) (iff_at hf (H1.out.below K9.out hB) (H2.out.below K9.out hB) G1.out G2.out G3.out (Nat.le_trans hB K9.out.size)))
            go_wp2_with fail
            clear hw9
            refine HC9.out.mono ?_; rintro _ w10 ⟨rfl, hb10⟩
            have K10 := Aid.hid (K9.out.trans (hb10.mono K9.out.size))
            clear hb10 x4 x50 x51 m4 m5 HC9
            go_wp2_with fail
            refine (awake_is _).mono ?_; rintro _ w99 ⟨rfl, hb99⟩
            have K99 := Aid.hid ((K10.out).trans (hb99.mono (K10.out).size))
            clear hb99
            go_wp2_with fail
            go_ret
            exact ⟨rfl, K99.out⟩
          ·
            obtain rfl : r1 = r3 := by symm; rw [← HR3.out, ← HLAB.out, Ty.Stmts_append, HR1.out, if_neg h0]
            have HC9 := Aid.hid (Stmts_is (f + 1) u a w9.heap.size cap x y (some ⟨w8.heap.size + 1 + 1, 0, none⟩) [St.iff (some ⟨w8.heap.size, 0, none⟩) 1 (some ⟨w8.heap.size + 1, 0, none⟩) 2 (.mk A1 la c1) (.mk A2 lb c2)] 1 r1 w9 (by rw [Ty.Stmts_iff]; show (if Ty.Stmts u x y la = 0 then Ty.Stmts u x y lb else Ty.Stmts u x y la) = _; rw [HR1.out, if_neg h0]) ((HU.out.below K9.out hB).wide (Nat.le_trans hB K9.out.size)) (Nat.le_refl _) HUL.out (iff_lim _ _ _ _ L1.out L2.out) (iff_at hf (H1.out.below K9.out hB) (H2.out.below K9.out hB) G1.out G2.out G3.out (Nat.le_trans hB K9.out.size)))
            go_wp2_with fail
            clear hw9
            refine HC9.out.mono ?_; rintro _ w10 ⟨rfl, hb10⟩
            have K10 := Aid.hid (K9.out.trans (hb10.mono K9.out.size))
            clear hb10 x4 x50 x51 m4 m5 HC9
            go_wp2_with fail
            refine (awake_is _).mono ?_; rintro _ w99 ⟨rfl, hb99⟩
            have K99 := Aid.hid ((K10.out).trans (hb99.mono (K10.out).size))
            clear hb99
            go_wp2_with fail
            go_ret
            exact ⟨rfl, K99.out⟩
        · go_wp2_with fail
          refine (awake_is _).mono ?_; rintro _ w99 ⟨rfl, hb99⟩
          have K99 := Aid.hid ((K4.out).trans (hb99.mono (K4.out).size))
          clear hb99
          go_wp2_with fail
          go_ret
          exact ⟨rfl, K99.out⟩
      · go_wp2_with fail
        refine (awake_is _).mono ?_; rintro _ w99 ⟨rfl, hb99⟩
        have K99 := Aid.hid ((K3.out).trans (hb99.mono (K3.out).size))
        clear hb99
        go_wp2_with fail
        go_ret
        exact ⟨rfl, K99.out⟩
    · go_wp2_with fail
      refine (awake_is _).mono ?_; rintro _ w99 ⟨rfl, hb99⟩
      have K99 := Aid.hid ((K2.out).trans (hb99.mono (K2.out).size))
      clear hb99
      go_wp2_with fail
      go_ret
      exact ⟨rfl, K99.out⟩
end Go.Proofs.Ytmhdcehpddbjaaa
