/- RulesTwice, as a walk. -/
import Derived.Test.YtejifefgmlpclaaGreatRuQ
import Derived.Test.YtejifefgmlpclaaGreatRuTwiceL
import Derived.Test.YtejifefgmlpclaaGreatGreatU
import Derived.Test.YtejifefgmlpclaaGreatTabClone
import Derived.WalkKit
import Derived.WalkSpells
import Derived.WalkLawsBesides
import Derived.LoopTactic
import Derived.Deep.QuietTactic
import Derived.BigQuiet
import Derived.Below
import Derived.Laws.ResultCell
import Derived.Laws.Tables
import Derived.Laws.Rows
import Derived.Deep.Cut
import Derived.KernelRfl
set_option linter.unusedSimpArgs false
set_option linter.unusedVariables false
namespace Go.Proofs.YtejifefgmlpclaaGreat
open Go.RowKit

theorem info_decl : (Tryz.prog.info? 34).map (fun i => (i.zero, i.size, i.bytes)) = some (some (.agg #[.int .i64 0, .string ⟨#[]⟩, .string ⟨#[]⟩, .slice none 0 0, .bool false, .bool false, .slice none 0 0, .slice none 0 0, .slice none 0 0, .int .i64 0, .int .i64 0]), 11, 160) := by kernel_rfl
theorem dk_one (l : List Dk) : ∀ x ∈ (l.map Dk.cells).flatten, x.oneCell' = true := by
  intro x hx
  obtain ⟨r, hr, hx⟩ := List.mem_flatten.1 hx
  obtain ⟨v, _, rfl⟩ := List.mem_map.1 hr
  simp [Dk.cells] at hx
  rcases hx with rfl | rfl | rfl | rfl | rfl | rfl | rfl | rfl | rfl | rfl | rfl <;> rfl
theorem own_sliceR {w : World} {base e sz n : Nat} {v : Value} {xs : List Value} (h : w.ownsRow base e sz v n xs) : ∃ A c, v = .slice A n c := by
  rcases h.2 with ⟨h1, rfl⟩ | ⟨g, cap, cur, h1, _⟩
  · exact ⟨none, 0, h1⟩
  · exact ⟨_, _, h1⟩
theorem wp_append_anyR {P : Program} (w : World) {o : Oper} {a : Act} {K : Act → World → Prop} {Q : Exit → Act → World → Prop} (s x : Operand) (t : TypeId)
    (ho : o.op = .call { callee := .builtin .append, args := #[s, x], argTypes := #[t, t] })
    (base : Nat) (e : TypeId) (i : TypeInfo) (z : Value) (size bytes : Nat) (ht : P.underlying t = some (.slice e)) (hi : P.info? e = some i) (hz : i.zero = some z)
    (hsize : i.size = size) (hby : i.bytes = bytes) (hzs : z.cells.size = size) (hsz : 0 < size)
    (v : Value) (n : Nat) (xs : List Value) (hs : a.eval s = v) (hown : w.ownsRow base e size v n xs)
    (B : Nat) (A : Option Addr) (m c : Nat) (news : List Value) (hx : a.eval x = .slice A m c) (hr : Reads w B size A m news) (h1 : ∀ u ∈ news, u.oneCell' = true)
    (h63 : n + m ≤ maxLen) (hbytes : (n + m) * bytes ≤ 140737488355328) (hbase : base ≤ w.heap.size)
    (h : ∀ v' w', w'.ownsRow base e size v' (n + m) (xs ++ news) → w.grownBy w' v.ownBlock → K (a.put o.dst v') w') : o.wp P a w K Q := by
  obtain ⟨v', w', hrun, r1, r2, _⟩ := run_append_any (P := P) w base t o.type e i z size bytes ht hi hz hsize hby hzs hsz v n xs hown B A m c news hr h1 h63 hbytes hbase
  unfold Oper.wp execOp
  simp only [ho, resolve, invoke, builtin, Sem.run_bind, Sem.run_pure, Result.andThen_ok, List.map_toArray, List.map_cons, List.map_nil, hs, hx, hrun]
  exact h v' w' r1 r2
theorem reads_uR {w : World} {B : Nat} {A : Option Addr} {u : List Dk} (h : UnitAt w B A u) : Reads w B 11 A u.length (u.map Dk.cells).flatten := by
  have h := Rows.reads (dk_len u) h.rows
  rwa [List.length_map] at h
theorem mem_snocR {u : List Dk} {d x : Dk} (h : x ∈ u ++ [d]) (hd : d ∈ u) : x ∈ u := by
  rcases List.mem_append.1 h with h | h
  · exact h
  · rw [List.mem_singleton.1 h]; exact hd
theorem has_add {w : World} {g : Nat} {xs : List Value} {t : TypeId} (h : Aid.Has w g xs t) : ∀ (j : Nat) (x : Value), xs[j]? = some x → w.cell? ((⟨g, 0, none⟩ : Addr).add j) = some x := fun j x hj => by
  rw [Go.WideShapes.add_plain, Nat.zero_add]; exact h.cell j x hj
theorem has_grownR {w w' : World} {g : Nat} {xs : List Value} {t : TypeId} {r : Option Nat} (h : Aid.Has w g xs t) (hg : w.grownBy w' r) (hne : ∀ q, r = some q → q ≠ g) : Aid.Has w' g xs t :=
  (hg.block g h.lt (fun e => hne g e.symm rfl)).trans h
theorem own_ne_type {w : World} {base e sz n g : Nat} {t : TypeId} {v : Value} {xs ys : List Value} (h : w.ownsRow base e sz v n xs) (hz : Aid.Has w g ys t) (hne : e ≠ t) : ∀ q, v.ownBlock = some q → q ≠ g := by
  rintro q hq rfl
  rcases h.2 with ⟨rfl, _⟩ | ⟨g, cap, cur, rfl, _, hg, _⟩
  · cases hq
  · obtain rfl : g = q := by simpa [Value.ownBlock] using hq
    have := hg.symm.trans hz
    simp at this
    exact hne this.2
theorem row_ownR {w : World} {base e sz n g : Nat} {v : Value} {xs : List Value} (h : w.ownsRow base e sz v n xs) (hb : ∀ q, v.ownBlock = some q → q ≠ g) (cs : Array Value) : (w.setRow g cs).ownsRow base e sz v n xs := by
  rcases h with ⟨h1, h2 | ⟨q, cp, cur, p1, p2, p3, p4⟩⟩
  · exact ⟨h1, Or.inl h2⟩
  · exact ⟨h1, Or.inr ⟨q, cp, cur, p1, p2, (row_heap w g cs q (hb q (by rw [p1]; rfl))).trans p3, p4⟩⟩
/-- The same declarations and one more, as a unit of its own. -/
structure MoreAt (w0 w : World) (u : List Dk) (d : Dk) (A : Option Addr) (c gz : Nat) : Prop where
  b : Below w0.heap.size w0 w
  z : Aid.Has w gz [.slice A (u.length + 1) c] 24
  o : w.ownsRow w0.heap.size 34 11 (.slice A (u.length + 1) c) (u.length + 1) ((u.map Dk.cells).flatten ++ d.cells)
theorem exsMoreR {w : World} {B C : Nat} (hC : B ≤ C) : ∀ {f : Nat} {A : Option Addr} {l : List Ex}, ExsAt f w B A l → ExsAt f w C A l
  | 0, _, _, h => h
  | _ + 1, _, _, h => ⟨h.1, h.2.1.more hC, fun e he => exsMoreR hC (h.2.2 e he)⟩
theorem stsMoreR {w : World} {B C : Nat} (hC : B ≤ C) : ∀ {f : Nat} {A : Option Addr} {l : List St}, StsAt f w B A l → StsAt f w C A l
  | 0, _, _, h => h
  | _ + 1, _, _, h => ⟨h.1, h.2.1.more hC, fun s hs => by
      obtain ⟨h1, ⟨h2, h3, h4⟩, h5, h6, h7⟩ := h.2.2 s hs
      exact ⟨exsMoreR hC h1, ⟨h2, h3.more hC, fun x hx => ⟨(h4 x hx).1, (h4 x hx).2.more hC⟩⟩, h5, h6.more hC, fun b hb => stsMoreR hC (h7 b hb)⟩⟩
theorem MdAt.moreR {w : World} {B C : Nat} {m : Md} (h : MdAt w B m) (hC : B ≤ C) : MdAt w C m :=
  ⟨h.params.more hC, h.vars.more hC, h.smallP, h.smallV, h.body.imp fun _ hf => stsMoreR hC hf⟩
theorem DkAt.moreR {w : World} {B C : Nat} {d : Dk} (h : DkAt w B d) (hC : B ≤ C) : DkAt w C d :=
  ⟨h.faces.more hC, h.vars.more hC, h.meths.more hC, fun m hm => (h.each m hm).moreR hC, h.smallF, h.smallV, h.smallM, h.body.imp fun _ hf => stsMoreR hC hf⟩
theorem RBody.moreR {w : World} {B C : Nat} {A : Option Addr} {l : List St} (h : RBody w B A l) (hC : B ≤ C) : RBody w C A l := by
  obtain ⟨f, h1, h2⟩ := h
  exact ⟨f, stsMoreR hC h1, h2⟩
theorem RBodies.sub {w : World} {B C : Nat} {u v : List Dk} (h : RBodies w B u) (hs : ∀ d ∈ v, d ∈ u) (hC : B ≤ C) : RBodies w C v := fun d hd => ⟨(h d (hs d hd)).1.moreR hC, fun m hm => ((h d (hs d hd)).2 m hm).moreR hC⟩
theorem RAll.sub {u v : List Dk} {cap c : Nat} (h : RAll u cap) (hs : ∀ d ∈ v, d ∈ u) (hn : v.length ≤ 20) (hc : v.length ≤ c) : RAll v c :=
  ⟨⟨⟨hn, fun d hd => h.r.lim.v d (hs d hd), fun d hd => h.r.lim.p d (hs d hd)⟩, fun d hd => h.r.body d (hs d hd)⟩, ⟨hn, fun d hd => h.s.v d (hs d hd), fun d hd => h.s.wf d (hs d hd)⟩, ⟨hc, fun d hd => h.c.f d (hs d hd), fun d hd => h.c.v d (hs d hd), fun d hd => h.c.m d (hs d hd), fun d hd => h.c.p d (hs d hd)⟩⟩
theorem unit_one {w : World} {b B : Nat} {d : Dk} (h : Aid.Has w b [.int .i64 d.kind, .string d.name, .string d.base, .slice d.fA d.faces.length d.fc, .bool d.abs, .bool d.fin, .slice d.vA d.vs.length d.vc, .slice d.mA d.ms.length d.mc, .slice d.bA d.body.length d.bc, .int .i64 d.every, .int .i64 d.first] 34) (hd : DkAt w B d) (hB : B ≤ w.heap.size) : UnitAt w w.heap.size (some ⟨b, 0, none⟩) [d] :=
  ⟨Rows.of_has (rows := [d].map Dk.cells) (by simpa [Dk.cells] using h) h.lt (dk_len _), fun x hx => by rw [List.mem_singleton.1 hx]; exact hd.moreR hB, by simp⟩
theorem unit_moreR {w0 w : World} {u : List Dk} {d : Dk} {A : Option Addr} {c gz B : Nat} (h : MoreAt w0 w u d A c gz) (hu : ∀ x ∈ u, DkAt w B x) (hd : DkAt w B d) (hB : B ≤ w.heap.size) (hn : u.length ≤ 16) : UnitAt w w.heap.size A (u ++ [d]) ∧ u.length + 1 ≤ c := by
  refine ⟨⟨?_, fun x hm => ?_, by simp; omega⟩, ?_⟩
  · refine Rows.of_own (rows := (u ++ [d]).map Dk.cells) (dk_len _) (c := c) (base := w0.heap.size) (e := 34) ?_
    simpa using h.o
  · rcases List.mem_append.1 hm with h | h
    · exact (hu x h).moreR hB
    · obtain rfl : x = d := by simpa using h
      exact hd.moreR hB
  · rcases h.o.2 with ⟨h1, h0⟩ | ⟨g, cp, cur, h1, _, _, h4, _⟩
    · cases h0
    · obtain ⟨_, rfl⟩ : A = some ⟨g, 0, none⟩ ∧ c = cp := by simpa using h1
      exact h4
theorem low_b (x n r : Int) (h : low x n = r) (h1 : 0 < n) (h2 : n ≤ 9223372036854775807) (w : World) :
    Calls Tryz.prog 7 #[.int .i64 x, .int .i64 n] w fun e w' => e = .returned (.int .i64 r) ∧ Below w.heap.size w w' :=
  (low_is x n r h h1 h2 w).mono (by rintro e w' ⟨rfl, rfl⟩; exact ⟨rfl, Below.refl _ _⟩)
theorem sameW_b (A C : Option Addr) (c d n B B' : Nat) (xs : List (Int × Int)) (w : World) (hn : xs.length = n) (hx : Rows w B 2 A (xs.map Wr.cells)) (hy : Rows w B' 2 C (xs.map Wr.cells)) (lx : xs.length < 1000000000) :
    Calls Tryz.prog 9 #[.slice A n c, .slice C n d] w fun e w' => e = .returned (.bool true) ∧ Below w.heap.size w w' := by
  subst hn
  refine (sameWrongs_walk A C c d B B' xs xs w hx hy lx lx).mono ?_
  rintro e w' ⟨rfl, n, rfl⟩
  exact ⟨by simp, below_drewN' (Below.refl _ _) n⟩
theorem runit2_is (u : List Dk) (a : Option Addr) (B cap : Nat) (zs : List (Int × Int)) (w : World) (hz : Ru.unit u = zs) (ha : RAll u cap) (hbo : RBodies w B u) (hu : UnitAt w B a u) (hB : B ≤ w.heap.size) (X : World → Prop) (hX : ∀ w', Below w.heap.size w w' → X w') (m : Nat) (hm : u.length = m) :
    Calls Tryz.prog 5 #[.agg #[.slice a m cap]] w fun e w' => ∃ A c, e = .returned (.slice A zs.length c) ∧ w'.ownsRow w.heap.size 39 2 (.slice A zs.length c) zs.length (zs.map Wr.cells).flatten ∧ X w' ∧ Below w.heap.size w w' := by
  subst hm
  refine (runit_is u a B cap zs w hz ha hbo hu hB).mono ?_
  rintro e w' ⟨A, c, h1, h2, h3⟩
  exact ⟨A, c, h1, h2, hX w' h3, h3⟩
theorem Wr.rows {w : World} {base c : Nat} {A : Option Addr} {zs : List (Int × Int)} (h : w.ownsRow base 39 2 (.slice A zs.length c) zs.length (zs.map Wr.cells).flatten) : Rows w w.heap.size 2 A (zs.map Wr.cells) ∧ zs.length ≤ c := by
  have h2 : w.ownsRow base 39 2 (.slice A (zs.map Wr.cells).length c) (zs.map Wr.cells).length (zs.map Wr.cells).flatten := by simpa using h
  refine ⟨Rows.of_own (Wr.len _) h2, ?_⟩
  rcases h.2 with ⟨h1, h0⟩ | ⟨g, cp, cur, h1, _, _, h4, _⟩
  · rw [h0]; exact Nat.zero_le _
  · obtain ⟨_, rfl⟩ : A = some ⟨g, 0, none⟩ ∧ c = cp := by simpa using h1
    exact h4
theorem Ru.unitFrom_len (u : List Dk) : ∀ (n k : Nat), (Ru.unitFrom u n k).length ≤ n
  | 0, _ => Nat.le_refl _
  | n + 1, k => by
    have := Ru.unitFrom_len u n (k + 1)
    rw [Ru.unitFrom, List.length_append]
    split <;> simp <;> omega
theorem Ru.great_not {d : Dk} (hk : 1 ≤ d.kind ∧ d.kind ≤ 4) (hc : Ru.decl [d] 0 ≠ 5) : Ru.great d = false := by
  cases hg : Ru.great d with
  | false => rfl
  | true =>
    refine absurd ?_ hc
    have h := Ru.declAt_at (u := [d]) (i := 0) (d := d) rfl
    rw [show ((0 : Nat) : Int) = 0 from rfl] at h
    rw [h, Ru.declAt, if_neg (fun h => h hk), if_pos (.inr hg)]
set_option maxRecDepth 100000 in
set_option maxHeartbeats 20000000 in
theorem twice_any (u : List Dk) (a : Option Addr) (B cap : Nat) (k : Int) (w : World) (ha : u.length ≤ 16 → RAll u cap) (hbo : RBodies w B u) (hu : UnitAt w B a u) (hB : B ≤ w.heap.size) :
    Calls Tryz.prog 3 #[.agg #[.slice a u.length cap], .int .i64 k] w fun z w' => z = .returned (.bool true) ∧ Below w.heap.size w w' := by
  have HU := Aid.hid hu; have HA := Aid.hid ha; have HBO := Aid.hid hbo
  have sm := hu.small
  obtain ⟨W, hW, qu, k0⟩ := newn1 w [.slice a u.length cap] 24
  have K0 := Aid.hid k0
  have Nu := Aid.hid qu
  clear qu k0 hu ha hbo
  have xu0 := Nu.out.cell 0 _ rfl
  have lu := Nu.out.lt
  by_cases hn : 16 < u.length
  · go_enter Tryz.func3, Tryz.ntmps3
    try simp only [List.append_eq, List.cons_append, List.nil_append]
    go_wp2_with fail
    (try clear hW)
    refine (greatUnit_big a u.length cap _ hn).mono ?_; rintro _ w1 ⟨rfl, hb1⟩
    have Kx1 := Aid.hid ((K0.out).trans (hb1.mono (K0.out).size))
    have Nu_1 := Aid.hid (Nu.out.below hb1 Nu.out.lt)
    clear xu0 lu
    clear hb1
    have xu0 := Nu_1.out.cell 0 _ rfl
    have lu := Nu_1.out.lt
    go_wp2_with fail
    refine (runit_is [] none 0 0 [] _ rfl (Ru.bare_all (u := []) (fun d hd => by cases hd) (by decide) (by decide)) (fun d hd => by cases hd) ⟨Rows.nil_ _ _ _ _, (fun d hd => by cases hd), by decide⟩ (Nat.zero_le _)).mono ?_; rintro _ w2 ⟨A1, c1, rfl, hown, hb2⟩
    have Kx2 := Aid.hid ((Kx1.out).trans (hb2.mono (Kx1.out).size))
    have Nu_2 := Aid.hid (Nu_1.out.below hb2 Nu_1.out.lt)
    clear xu0 lu
    clear hb2
    clear hown
    go_wp2_with fail
    refine (rawake_is _).mono ?_; rintro _ w3 ⟨rfl, hb3⟩
    have Kx3 := Aid.hid ((Kx2.out).trans (hb3.mono (Kx2.out).size))
    have Nu_3 := Aid.hid (Nu_2.out.below hb3 Nu_2.out.lt)
    clear hb3
    go_wp2_with fail
    go_ret
    exact ⟨rfl, Kx3.out⟩
  · have hn16 : u.length ≤ 16 := by omega
    clear hn
    go_enter Tryz.func3, Tryz.ntmps3
    try simp only [List.append_eq, List.cons_append, List.nil_append]
    go_wp2_with fail
    (try clear hW)
    refine (greatUnit_is u a B cap _ (HU.out.below (K0.out) hB) (Nat.le_trans hB (K0.out).size) hn16).mono ?_; rintro _ w1 ⟨rg, rfl, hb1⟩
    have Kx1 := Aid.hid ((K0.out).trans (hb1.mono (K0.out).size))
    have Nu_1 := Aid.hid (Nu.out.below hb1 Nu.out.lt)
    clear xu0 lu
    clear hb1
    have xu0 := Nu_1.out.cell 0 _ rfl
    have lu := Nu_1.out.lt
    cases rg
    · by_cases h11 : 11 < u.length
      · have f11 : decide ((11 : Int) < (u.length : Int)) = true := decide_eq_true (by omega)
        go_wp2_with fail
        refine (runit_is [] none 0 0 [] _ rfl (Ru.bare_all (u := []) (fun d hd => by cases hd) (by decide) (by decide)) (fun d hd => by cases hd) ⟨Rows.nil_ _ _ _ _, (fun d hd => by cases hd), by decide⟩ (Nat.zero_le _)).mono ?_; rintro _ w2 ⟨A1, c1, rfl, hown, hb2⟩
        have Kx2 := Aid.hid ((Kx1.out).trans (hb2.mono (Kx1.out).size))
        have Nu_2 := Aid.hid (Nu_1.out.below hb2 Nu_1.out.lt)
        clear xu0 lu
        clear hb2
        clear hown
        go_wp2_with fail
        refine (rawake_is _).mono ?_; rintro _ w3 ⟨rfl, hb3⟩
        have Kx3 := Aid.hid ((Kx2.out).trans (hb3.mono (Kx2.out).size))
        have Nu_3 := Aid.hid (Nu_2.out.below hb3 Nu_2.out.lt)
        clear hb3
        go_wp2_with fail
        go_ret
        exact ⟨rfl, Kx3.out⟩
      · have f11 : decide ((11 : Int) < (u.length : Int)) = false := decide_eq_false (by omega)
        by_cases h00 : u.length = 0
        · have f0 : ((u.length : Int) == 0) = true := by simp [h00]
          clear h00 h11
          go_wp2_with fail
          refine (runit_is [] none 0 0 [] _ rfl (Ru.bare_all (u := []) (fun d hd => by cases hd) (by decide) (by decide)) (fun d hd => by cases hd) ⟨Rows.nil_ _ _ _ _, (fun d hd => by cases hd), by decide⟩ (Nat.zero_le _)).mono ?_; rintro _ w2 ⟨A1, c1, rfl, hown, hb2⟩
          have Kx2 := Aid.hid ((Kx1.out).trans (hb2.mono (Kx1.out).size))
          have Nu_2 := Aid.hid (Nu_1.out.below hb2 Nu_1.out.lt)
          clear xu0 lu
          clear hb2
          clear hown
          go_wp2_with fail
          refine (rawake_is _).mono ?_; rintro _ w3 ⟨rfl, hb3⟩
          have Kx3 := Aid.hid ((Kx2.out).trans (hb3.mono (Kx2.out).size))
          have Nu_3 := Aid.hid (Nu_2.out.below hb3 Nu_2.out.lt)
          clear hb3
          go_wp2_with fail
          go_ret
          exact ⟨rfl, Kx3.out⟩
        · have f0 : ((u.length : Int) == 0) = false := by simpa using h00
          have hl0 : 0 < u.length := by omega
          clear h00
          obtain ⟨nr, hnr, hnl⟩ : ∃ r : Nat, low k (u.length : Int) = r ∧ r < u.length := by
            obtain ⟨h1, h2⟩ := low_in k (u.length : Int) (by omega)
            obtain ⟨r, hr⟩ := Int.eq_ofNat_of_zero_le h1
            exact ⟨r, hr, by omega⟩
          have HNR := Aid.hid hnr
          obtain ⟨d, hd⟩ : ∃ d, u[nr]? = some d := ⟨_, List.getElem?_eq_getElem hnl⟩
          have HD := Aid.hid hd
          have HDK := Aid.hid (HU.out.decls d (List.mem_of_getElem? hd))
          have HMEM := Aid.hid (List.mem_of_getElem? hd)
          have HA2 := Aid.hid (HA.out (by omega))
          clear hnr hd
          obtain ⟨ub, uo, rfl, hlt_ub, hc_ub⟩ := (HU.out.below (Kx1.out) hB).at_ (by omega)
          have lub : ub < w1.heap.size := Nat.lt_of_lt_of_le hlt_ub (Nat.le_trans hB (Kx1.out).size)
          have c0 := hc_ub nr d HD.out 0 _ rfl
          simp only [Nat.add_zero] at c0
          have c1 := hc_ub nr d HD.out 1 _ rfl
          have c2 := hc_ub nr d HD.out 2 _ rfl
          have c3 := hc_ub nr d HD.out 3 _ rfl
          have c4 := hc_ub nr d HD.out 4 _ rfl
          have c5 := hc_ub nr d HD.out 5 _ rfl
          have c6 := hc_ub nr d HD.out 6 _ rfl
          have c7 := hc_ub nr d HD.out 7 _ rfl
          have c8 := hc_ub nr d HD.out 8 _ rfl
          have c9 := hc_ub nr d HD.out 9 _ rfl
          have c10 := hc_ub nr d HD.out 10 _ rfl
          clear hc_ub
          go_wp2_with fail
          refine wp_cut (fun a0 e a' w' => e = .normal ∧ Aid.Kept (∃ (g : Nat) (v30 v31 v32 v33 v34 v35 v36 v37 v38 : Value), a' = putL a0 [(30, v30), (31, v31), (32, v32), (33, v33), (34, v34), (35, v35), (36, v36), (37, v37), (38, v38), (5, .pointer (some ⟨g, 0, none⟩))] ∧ Aid.Has w' g [.int .i64 d.kind, .string d.name, .string d.base, .slice d.fA d.faces.length d.fc, .bool d.abs, .bool d.fin, .slice d.vA d.vs.length d.vc, .slice d.mA d.ms.length d.mc, .slice d.bA d.body.length d.bc, .int .i64 d.every, .int .i64 d.first] 34 ∧ w1.heap.size ≤ g ∧ Below w1.heap.size w1 w')) ?_ ?_
          · have HZ := Aid.hid (fun (w' : World) (hSw : Below w1.heap.size w1 w') => (⟨(hSw.cell (p := ⟨w.heap.size, 0, none⟩) lu).trans xu0, (hSw.cell (p := ⟨ub, uo + nr * 11, none⟩) lub).trans c0, (hSw.cell (p := ⟨ub, uo + nr * 11 + 1, none⟩) lub).trans c1, (hSw.cell (p := ⟨ub, uo + nr * 11 + 2, none⟩) lub).trans c2, (hSw.cell (p := ⟨ub, uo + nr * 11 + 3, none⟩) lub).trans c3, (hSw.cell (p := ⟨ub, uo + nr * 11 + 4, none⟩) lub).trans c4, (hSw.cell (p := ⟨ub, uo + nr * 11 + 5, none⟩) lub).trans c5, (hSw.cell (p := ⟨ub, uo + nr * 11 + 6, none⟩) lub).trans c6, (hSw.cell (p := ⟨ub, uo + nr * 11 + 7, none⟩) lub).trans c7, (hSw.cell (p := ⟨ub, uo + nr * 11 + 8, none⟩) lub).trans c8, (hSw.cell (p := ⟨ub, uo + nr * 11 + 9, none⟩) lub).trans c9, (hSw.cell (p := ⟨ub, uo + nr * 11 + 10, none⟩) lub).trans c10⟩ : _ ∧ _ ∧ _ ∧ _ ∧ _ ∧ _ ∧ _ ∧ _ ∧ _ ∧ _ ∧ _ ∧ _))
            have hb : Below w1.heap.size w1 w1.drew := (Below.refl _ _).drew
            refine Ord.wp_region_go (fun w' => Below w1.heap.size w1 w') 10 [0, 1, 2, 3, 4, 5, 7, 8] (by kernel_rfl) (by kernel_rfl) (fun _ _ _ _ _ h => by cases h.1) (hb) ?_
            clear hb
            have hb : Below w1.heap.size w1 w1.drew := (Below.refl _ _).drew
            generalize w1.drew = wd0 at *
            apply Ord.go_light (i := 0) (by kernel_rfl)
            next => (simp only [la0, la1, la2]; rfl)
            next => rfl
            next => (intro w' hSw; obtain ⟨z0, z1, z2, z3, z4, z5, z6, z7, z8, z9, z10, z11⟩ := HZ.out w' hSw; clear hSw; go_simp; first | done | with_reducible rfl)
            simp only [Act.put, la3, la4, la5]
            apply Ord.go_light (i := 1) (by kernel_rfl)
            next => (simp only [la0, la1, la2]; rfl)
            next => rfl
            next => (intro w' hSw; obtain ⟨z0, z1, z2, z3, z4, z5, z6, z7, z8, z9, z10, z11⟩ := HZ.out w' hSw; clear hSw; go_simp; first | done | with_reducible rfl)
            simp only [Act.put, la3, la4, la5]
            apply Ord.go_light (i := 2) (by kernel_rfl)
            next => (simp only [la0, la1, la2]; rfl)
            next => rfl
            next => (intro w' hSw; obtain ⟨z0, z1, z2, z3, z4, z5, z6, z7, z8, z9, z10, z11⟩ := HZ.out w' hSw; clear hSw; go_simp; first | done | with_reducible rfl)
            simp only [Act.put, la3, la4, la5]
            apply Ord.go_light (i := 3) (by kernel_rfl)
            next => (simp only [la0, la1, la2]; rfl)
            next => rfl
            next => (intro w' hSw; obtain ⟨z0, z1, z2, z3, z4, z5, z6, z7, z8, z9, z10, z11⟩ := HZ.out w' hSw; clear hSw; go_simp; first | done | with_reducible rfl)
            simp only [Act.put, la3, la4, la5]
            apply Ord.go_light (i := 4) (by kernel_rfl)
            next => (simp only [la0, la1, la2]; rfl)
            next => rfl
            next => (intro w' hSw; obtain ⟨z0, z1, z2, z3, z4, z5, z6, z7, z8, z9, z10, z11⟩ := HZ.out w' hSw; clear hSw; go_simp; first | done | with_reducible rfl)
            simp only [Act.put, la3, la4, la5]
            apply Ord.go_light (i := 5) (by kernel_rfl)
            next => (simp only [la0, la1, la2]; rfl)
            next => rfl
            next => (intro w' hSw; obtain ⟨z0, z1, z2, z3, z4, z5, z6, z7, z8, z9, z10, z11⟩ := HZ.out w' hSw; clear hSw; go_simp; first | done | with_reducible rfl)
            simp only [Act.put, la3, la4, la5]
            refine Ord.go_two (i := 6) (j := 9) (by kernel_rfl) (by kernel_rfl) ?_ ?_
            ·
              apply Ord.go_done1
              next => (simp only [la0, la1, la2]; rfl)
              next => rfl
              intro K hK
              go_wp2_with fail
              refine (low_b k (u.length : Int) nr HNR.out (by omega) (by omega) _).mono ?_; rintro _ vc ⟨rfl, hb'⟩; dsimp only
              refine hK.out _ _ (hb.trans (hb'.mono hb.size)) (fun hHeld => ?_)
              clear hb hb'
              have hb := hHeld
              clear hK K
              try simp only [Act.put, la3, la4, la5]
              apply Ord.go_light (i := 7) (by kernel_rfl)
              next => (simp only [la0, la1, la2]; rfl)
              next => rfl
              next => (intro w' hSw; obtain ⟨z0, z1, z2, z3, z4, z5, z6, z7, z8, z9, z10, z11⟩ := HZ.out w' hSw; clear hSw; go_simp; first | done | with_reducible rfl)
              simp only [Act.put, la3, la4, la5]
              apply Ord.go_light (i := 8) (by kernel_rfl)
              next => (simp only [la0, la1, la2]; rfl)
              next => rfl
              next => (intro w' hSw; obtain ⟨z0, z1, z2, z3, z4, z5, z6, z7, z8, z9, z10, z11⟩ := HZ.out w' hSw; clear hSw; go_simp; first | done | with_reducible rfl)
              simp only [Act.put, la3, la4, la5]
              refine Ord.go_one (i := 9) (by kernel_rfl) (by kernel_rfl) ?_
              apply Ord.go_done1
              next => (simp only [la0, la1, la2]; rfl)
              next => rfl
              intro K hK
              go_wp2_with fail
              have hg := Aid.Has.new vc [.int .i64 0, .string ⟨#[]⟩, .string ⟨#[]⟩, .slice none 0 0, .bool false, .bool false, .slice none 0 0, .slice none 0 0, .slice none 0 0, .int .i64 0, .int .i64 0] 34
              have hgs := hb.size
              refine hK.out _ _ (hb.alloc hb.size _) (fun hHeld => ?_)
              clear hb
              have hb := hHeld
              generalize hX : vc.alloc _ = wx at *
              clear hX
              clear hK K
              try simp only [Act.put, la3, la4, la5]
              refine Ord.go_tail ?_; simp only [List.drop_succ_cons, List.drop_zero]
              go_wp2_with (refine wpList_store_row rfl 34 _ _ rfl (vc.heap.size) _ rfl rfl 34 _ hg (by kernel_rfl) rfl (by simp [Value.oneCell']) ?_)
              (try refine ⟨rfl, ?_⟩)
              unfold Aid.Kept
              refine ⟨vc.heap.size, ?_⟩
              all_goals (repeat' apply And.intro)
              all_goals first | exact row_has hg | exact hgs | exact row_below hb hgs _ | (simp only [putL, Act.put, la3, la4, la5]; exact ⟨_, _, _, _, _, _, _, _, _, rfl⟩)
            ·
              apply Ord.go_done1
              next => (simp only [la0, la1, la2]; rfl)
              next => rfl
              intro K hK
              go_wp2_with fail
              have hg := Aid.Has.new wd0 [.int .i64 0, .string ⟨#[]⟩, .string ⟨#[]⟩, .slice none 0 0, .bool false, .bool false, .slice none 0 0, .slice none 0 0, .slice none 0 0, .int .i64 0, .int .i64 0] 34
              have hgs := hb.size
              refine hK.out _ _ (hb.alloc hb.size _) (fun hHeld => ?_)
              clear hb
              have hb := hHeld
              generalize hX : wd0.alloc _ = wx at *
              clear hX
              clear hK K
              try simp only [Act.put, la3, la4, la5]
              refine Ord.go_one (i := 6) (by kernel_rfl) (by kernel_rfl) ?_
              apply Ord.go_done1
              next => (simp only [la0, la1, la2]; rfl)
              next => rfl
              intro K hK
              go_wp2_with fail
              refine (low_b k (u.length : Int) nr HNR.out (by omega) (by omega) _).mono ?_; rintro _ vc ⟨rfl, hb'⟩; dsimp only
              refine hK.out _ _ (hb.trans (hb'.mono hb.size)) (fun hHeld => ?_)
              have hg := hg.below hb' hg.lt
              clear hb hb'
              have hb := hHeld
              clear hK K
              try simp only [Act.put, la3, la4, la5]
              apply Ord.go_light (i := 7) (by kernel_rfl)
              next => (simp only [la0, la1, la2]; rfl)
              next => rfl
              next => (intro w' hSw; obtain ⟨z0, z1, z2, z3, z4, z5, z6, z7, z8, z9, z10, z11⟩ := HZ.out w' hSw; clear hSw; go_simp; first | done | with_reducible rfl)
              simp only [Act.put, la3, la4, la5]
              apply Ord.go_light (i := 8) (by kernel_rfl)
              next => (simp only [la0, la1, la2]; rfl)
              next => rfl
              next => (intro w' hSw; obtain ⟨z0, z1, z2, z3, z4, z5, z6, z7, z8, z9, z10, z11⟩ := HZ.out w' hSw; clear hSw; go_simp; first | done | with_reducible rfl)
              simp only [Act.put, la3, la4, la5]
              refine Ord.go_tail ?_; simp only [List.drop_succ_cons, List.drop_zero]
              go_wp2_with (refine wpList_store_row rfl 34 _ _ rfl (wd0.heap.size) _ rfl rfl 34 _ hg (by kernel_rfl) rfl (by simp [Value.oneCell']) ?_)
              (try refine ⟨rfl, ?_⟩)
              unfold Aid.Kept
              refine ⟨wd0.heap.size, ?_⟩
              all_goals (repeat' apply And.intro)
              all_goals first | exact row_has hg | exact hgs | exact row_below hb hgs _ | (simp only [putL, Act.put, la3, la4, la5]; exact ⟨_, _, _, _, _, _, _, _, _, rfl⟩)
          rintro e' a' w2 ⟨rfl, g2, v30, v31, v32, v33, v34, v35, v36, v37, v38, rfl, hg2, hgl2, hb2⟩
          simp only [putL, Act.put, la3, la4, la5]
          have Nnew2 := Aid.hid hg2
          clear hg2
          have hbq2 := hb2
          have Kx2 := Aid.hid ((Kx1.out).trans (hb2.mono (Kx1.out).size))
          have Nu_2 := Aid.hid (Nu_1.out.below hb2 Nu_1.out.lt)
          clear xu0 lu c0 c1 c2 c3 c4 c5 c6 c7 c8 c9 c10 lub
          clear hb2
          have zd0 := Nnew2.out.cell 0 _ rfl
          have zd1 := Nnew2.out.cell 1 _ rfl
          have zd2 := Nnew2.out.cell 2 _ rfl
          have zd3 := Nnew2.out.cell 3 _ rfl
          have zd4 := Nnew2.out.cell 4 _ rfl
          have zd5 := Nnew2.out.cell 5 _ rfl
          have zd6 := Nnew2.out.cell 6 _ rfl
          have zd7 := Nnew2.out.cell 7 _ rfl
          have zd8 := Nnew2.out.cell 8 _ rfl
          have zd9 := Nnew2.out.cell 9 _ rfl
          have zd10 := Nnew2.out.cell 10 _ rfl
          have zdl := Nnew2.out.lt
          obtain ⟨X3, hX⟩ : ∃ X, w2.alloc (.cells #[.int .i64 d.kind, .string d.name, .string d.base, .slice d.fA d.faces.length d.fc, .bool d.abs, .bool d.fin, .slice d.vA d.vs.length d.vc, .slice d.mA d.ms.length d.mc, .slice d.bA d.body.length d.bc, .int .i64 d.every, .int .i64 d.first] 34) = X := ⟨_, rfl⟩
          have qone := new_at hX
          have qu := all_at hX Nu_2.out
          have qnew2 := all_at hX Nnew2.out
          have qqk := below_at hX (Kx2.out)
          have qqs := below_at0 hX
          have Nu_3 := Aid.hid qu
          have Nnew2_3 := Aid.hid qnew2
          have None_3 := Aid.hid qone
          have Kx3 := Aid.hid qqk
          have Qs3 := Aid.hid qqs
          clear qqk qqs qu qnew2 qone
          have xnew20 := Nnew2_3.out.cell 0 _ rfl
          have xnew21 := Nnew2_3.out.cell 1 _ rfl
          have xnew22 := Nnew2_3.out.cell 2 _ rfl
          have xnew23 := Nnew2_3.out.cell 3 _ rfl
          have xnew24 := Nnew2_3.out.cell 4 _ rfl
          have xnew25 := Nnew2_3.out.cell 5 _ rfl
          have xnew26 := Nnew2_3.out.cell 6 _ rfl
          have xnew27 := Nnew2_3.out.cell 7 _ rfl
          have xnew28 := Nnew2_3.out.cell 8 _ rfl
          have xnew29 := Nnew2_3.out.cell 9 _ rfl
          have xnew210 := Nnew2_3.out.cell 10 _ rfl
          have lnew2 := Nnew2_3.out.lt
          obtain ⟨c, hc⟩ : ∃ c, Ru.decl [d] 0 = c := ⟨_, rfl⟩
          have HC := Aid.hid hc
          clear hc
          have HU1 : Hid (UnitAt X3 X3.heap.size (some ⟨w2.heap.size, 0, none⟩) [d]) := Aid.hid (unit_one None_3.out (HDK.out.below (Kx3.out) hB) (Nat.le_trans hB (Kx3.out).size))
          have HB1 : Hid (RBodies X3 X3.heap.size [d]) := Aid.hid ((HBO.out.below (Kx3.out) hB).sub (fun x hx => by rw [List.mem_singleton.1 hx]; exact HMEM.out) (Nat.le_trans hB (Kx3.out).size))
          go_wp2_with fail
          (try clear hX)
          clear zdl zd0 zd1 zd2 zd3 zd4 zd5 zd6 zd7 zd8 zd9 zd10
          refine (decl_is [d] _ X3.heap.size 1 0 c _ HC.out (HA2.out.sub (fun x hx => by rw [List.mem_singleton.1 hx]; exact HMEM.out) (by simp) (by simp)) HB1.out HU1.out (Nat.le_refl _)).mono ?_; rintro _ w4 ⟨rfl, hb4⟩
          have Kx4 := Aid.hid ((Kx3.out).trans (hb4.mono (Kx3.out).size))
          have Nu_4 := Aid.hid (Nu_3.out.below hb4 Nu_3.out.lt)
          have Nnew2_4 := Aid.hid (Nnew2_3.out.below hb4 Nnew2_3.out.lt)
          have None_4 := Aid.hid (None_3.out.below hb4 None_3.out.lt)
          clear xnew20 xnew21 xnew22 xnew23 xnew24 xnew25 xnew26 xnew27 xnew28 xnew29 xnew210 lnew2
          clear hb4
          have xnew20 := Nnew2_4.out.cell 0 _ rfl
          have xnew21 := Nnew2_4.out.cell 1 _ rfl
          have xnew22 := Nnew2_4.out.cell 2 _ rfl
          have xnew23 := Nnew2_4.out.cell 3 _ rfl
          have xnew24 := Nnew2_4.out.cell 4 _ rfl
          have xnew25 := Nnew2_4.out.cell 5 _ rfl
          have xnew26 := Nnew2_4.out.cell 6 _ rfl
          have xnew27 := Nnew2_4.out.cell 7 _ rfl
          have xnew28 := Nnew2_4.out.cell 8 _ rfl
          have xnew29 := Nnew2_4.out.cell 9 _ rfl
          have xnew210 := Nnew2_4.out.cell 10 _ rfl
          have lnew2 := Nnew2_4.out.lt
          by_cases h5 : c = 5
          · have e5 : (c == 5) = true := by simp [h5]
            clear h5
            go_wp2_with fail
            refine (rawake_is _).mono ?_; rintro _ w5 ⟨rfl, hb5⟩
            have Kx5 := Aid.hid ((Kx4.out).trans (hb5.mono (Kx4.out).size))
            have Nu_5 := Aid.hid (Nu_4.out.below hb5 Nu_4.out.lt)
            have Nnew2_5 := Aid.hid (Nnew2_4.out.below hb5 Nnew2_4.out.lt)
            have None_5 := Aid.hid (None_4.out.below hb5 None_4.out.lt)
            clear xnew20 xnew21 xnew22 xnew23 xnew24 xnew25 xnew26 xnew27 xnew28 xnew29 xnew210 lnew2
            clear hb5
            go_wp2_with fail
            go_ret
            exact ⟨rfl, Kx5.out⟩
          · have e5 : (c == 5) = false := by simpa using h5
            by_cases hk1 : d.kind < 1
            · have e1 : decide (d.kind < 1) = true := decide_eq_true hk1
              go_wp2_with fail
              refine (rawake_is _).mono ?_; rintro _ w5 ⟨rfl, hb5⟩
              have Kx5 := Aid.hid ((Kx4.out).trans (hb5.mono (Kx4.out).size))
              have Nu_5 := Aid.hid (Nu_4.out.below hb5 Nu_4.out.lt)
              have Nnew2_5 := Aid.hid (Nnew2_4.out.below hb5 Nnew2_4.out.lt)
              have None_5 := Aid.hid (None_4.out.below hb5 None_4.out.lt)
              clear xnew20 xnew21 xnew22 xnew23 xnew24 xnew25 xnew26 xnew27 xnew28 xnew29 xnew210 lnew2
              clear hb5
              go_wp2_with fail
              go_ret
              exact ⟨rfl, Kx5.out⟩
            · have e1 : decide (d.kind < 1) = false := decide_eq_false hk1
              by_cases hk4 : 4 < d.kind
              · have e4 : decide (4 < d.kind) = true := decide_eq_true hk4
                go_wp2_with fail
                refine (rawake_is _).mono ?_; rintro _ w5 ⟨rfl, hb5⟩
                have Kx5 := Aid.hid ((Kx4.out).trans (hb5.mono (Kx4.out).size))
                have Nu_5 := Aid.hid (Nu_4.out.below hb5 Nu_4.out.lt)
                have Nnew2_5 := Aid.hid (Nnew2_4.out.below hb5 Nnew2_4.out.lt)
                have None_5 := Aid.hid (None_4.out.below hb5 None_4.out.lt)
                clear xnew20 xnew21 xnew22 xnew23 xnew24 xnew25 xnew26 xnew27 xnew28 xnew29 xnew210 lnew2
                clear hb5
                go_wp2_with fail
                go_ret
                exact ⟨rfl, Kx5.out⟩
              · have e4 : decide (4 < d.kind) = false := decide_eq_false hk4
                have HGR := Aid.hid (Ru.great_not (d := d) (by omega) (by rw [HC.out]; exact h5))
                have HKK := Aid.hid (show 1 ≤ d.kind ∧ d.kind ≤ 4 by omega)
                clear h5 hk1 hk4
                go_wp2_with fail
                clear xnew20 xnew21 xnew22 xnew23 xnew24 xnew25 xnew26 xnew27 xnew28 xnew29 xnew210 lnew2
                clear e5 e1 e4
                have xu0 := Nu_4.out.cell 0 _ rfl
                have lu := Nu_4.out.lt
                have xnew20 := Nnew2_4.out.cell 0 _ rfl
                have xnew21 := Nnew2_4.out.cell 1 _ rfl
                have xnew22 := Nnew2_4.out.cell 2 _ rfl
                have xnew23 := Nnew2_4.out.cell 3 _ rfl
                have xnew24 := Nnew2_4.out.cell 4 _ rfl
                have xnew25 := Nnew2_4.out.cell 5 _ rfl
                have xnew26 := Nnew2_4.out.cell 6 _ rfl
                have xnew27 := Nnew2_4.out.cell 7 _ rfl
                have xnew28 := Nnew2_4.out.cell 8 _ rfl
                have xnew29 := Nnew2_4.out.cell 9 _ rfl
                have xnew210 := Nnew2_4.out.cell 10 _ rfl
                have lnew2 := Nnew2_4.out.lt
                obtain ⟨i0, hi, hz0, hz1, hz2⟩ := info_parts info_decl
                refine wp_cut (fun a0 e a' w' => e = .normal ∧ Aid.Kept (∃ (A2 : Option Addr) (c2 gz : Nat) (v55 v56 v57 v58 v59 v60 v61 : Value), a' = putL a0 [(55, v55), (56, v56), (57, v57), (58, v58), (59, v59), (60, v60), (61, v61), (6, .pointer (some ⟨gz, 0, none⟩))] ∧ Hid (MoreAt w4 w' u d A2 c2 gz))) ?_ ?_
                · have HZ := Aid.hid (fun (w' : World) (hSw : Below w4.heap.size w4 w') => (⟨(hSw.cell (p := ⟨w.heap.size, 0, none⟩) lu).trans xu0, (hSw.cell (p := ⟨g2, 0, none⟩) lnew2).trans xnew20, (hSw.cell (p := ⟨g2, 1, none⟩) lnew2).trans xnew21, (hSw.cell (p := ⟨g2, 2, none⟩) lnew2).trans xnew22, (hSw.cell (p := ⟨g2, 3, none⟩) lnew2).trans xnew23, (hSw.cell (p := ⟨g2, 4, none⟩) lnew2).trans xnew24, (hSw.cell (p := ⟨g2, 5, none⟩) lnew2).trans xnew25, (hSw.cell (p := ⟨g2, 6, none⟩) lnew2).trans xnew26, (hSw.cell (p := ⟨g2, 7, none⟩) lnew2).trans xnew27, (hSw.cell (p := ⟨g2, 8, none⟩) lnew2).trans xnew28, (hSw.cell (p := ⟨g2, 9, none⟩) lnew2).trans xnew29, (hSw.cell (p := ⟨g2, 10, none⟩) lnew2).trans xnew210⟩ : _ ∧ _ ∧ _ ∧ _ ∧ _ ∧ _ ∧ _ ∧ _ ∧ _ ∧ _ ∧ _ ∧ _))
                  have hb : Below w4.heap.size w4 w4.drew := (Below.refl _ _).drew
                  refine Ord.wp_region_go (fun w' => Below w4.heap.size w4 w') 8 [0, 1, 3, 6] (by kernel_rfl) (by kernel_rfl) (fun _ _ _ _ _ h => by cases h.1) (hb) ?_
                  clear hb
                  have hb : Below w4.heap.size w4 w4.drew := (Below.refl _ _).drew
                  generalize w4.drew = wd0 at *
                  apply Ord.go_light (i := 0) (by kernel_rfl)
                  next => (simp only [la0, la1, la2]; rfl)
                  next => rfl
                  next => (intro w' hSw; obtain ⟨z0, z1, z2, z3, z4, z5, z6, z7, z8, z9, z10, z11⟩ := HZ.out w' hSw; clear hSw; go_simp; first | done | with_reducible rfl)
                  simp only [Act.put, la3, la4, la5]
                  apply Ord.go_light (i := 1) (by kernel_rfl)
                  next => (simp only [la0, la1, la2]; rfl)
                  next => rfl
                  next => (intro w' hSw; obtain ⟨z0, z1, z2, z3, z4, z5, z6, z7, z8, z9, z10, z11⟩ := HZ.out w' hSw; clear hSw; go_simp; first | done | with_reducible rfl)
                  simp only [Act.put, la3, la4, la5]
                  apply Ord.go_light (i := 3) (by kernel_rfl)
                  next => (simp only [la0, la1, la2]; rfl)
                  next => rfl
                  next => (intro w' hSw; obtain ⟨z0, z1, z2, z3, z4, z5, z6, z7, z8, z9, z10, z11⟩ := HZ.out w' hSw; clear hSw; go_simp; first | done | with_reducible rfl)
                  simp only [Act.put, la3, la4, la5]
                  refine Ord.go_three (i := 2) (j := 4) (k := 7) (by kernel_rfl) (by kernel_rfl) ?_ ?_ ?_
                  ·
                    apply Ord.go_done1
                    next => (simp only [la0, la1, la2]; rfl)
                    next => rfl
                    intro K hK
                    have hr0 := reads_uR (HU.out.below ((Kx4.out).trans (hb.mono (Kx4.out).size)) hB)
                    refine wp_append_anyR wd0 _ _ 22 rfl wd0.heap.size 34 i0 (.agg #[.int .i64 0, .string ⟨#[]⟩, .string ⟨#[]⟩, .slice none 0 0, .bool false, .bool false, .slice none 0 0, .slice none 0 0, .slice none 0 0, .int .i64 0, .int .i64 0]) 11 160 Tryz.underlying22 hi hz0 hz1 hz2 rfl (by decide) (.slice none 0 0) 0 [] rfl (World.ownsRow_nil _ _ _ _) B (some ⟨ub, uo, none⟩) u.length cap _ rfl hr0 (dk_one u) ?c1 ?c2 (Nat.le_refl _) ?_
                    case c1 => unfold maxLen; omega
                    case c2 => omega
                    intro v1 wA hown1 hgrow1
                    simp only [Nat.zero_add, List.nil_append] at hown1
                    obtain ⟨A1, c1, rfl⟩ := own_sliceR hown1
                    have hbA : Below wd0.heap.size wd0 wA := (Below.refl _ _).grown hgrow1 (Nat.le_refl _) (fun q hq => by simp [Value.ownBlock] at hq)
                    refine hK.out _ _ (hb.trans (hbA.mono hb.size)) (fun hHeld => ?_)
                    have HO1 := Aid.hid (own_lowers hown1 hb.size)
                    clear hb hbA hown1 hgrow1 hr0
                    have hb := hHeld
                    clear hK K
                    try simp only [Act.put, la3, la4, la5]
                    refine Ord.go_two (i := 4) (j := 7) (by kernel_rfl) (by kernel_rfl) ?_ ?_
                    ·
                      apply Ord.go_done1
                      next => (simp only [la0, la1, la2]; rfl)
                      next => rfl
                      intro K hK
                      go_wp2_with fail
                      have HNE := Aid.hid (fun q (hq : (Value.slice A1 u.length c1).ownBlock = some q) => (show q ≠ wA.heap.size from by have := (HO1.out.lt q hq).2; omega))
                      replace HO1 := Aid.hid (HO1.out.alloc (.cells #[.int .i64 d.kind, .string d.name, .string d.base, .slice d.fA d.faces.length d.fc, .bool d.abs, .bool d.fin, .slice d.vA d.vs.length d.vc, .slice d.mA d.ms.length d.mc, .slice d.bA d.body.length d.bc, .int .i64 d.every, .int .i64 d.first] 34))
                      have HG := Aid.hid (Aid.Has.new wA [.int .i64 d.kind, .string d.name, .string d.base, .slice d.fA d.faces.length d.fc, .bool d.abs, .bool d.fin, .slice d.vA d.vs.length d.vc, .slice d.mA d.ms.length d.mc, .slice d.bA d.body.length d.bc, .int .i64 d.every, .int .i64 d.first] 34)
                      refine hK.out _ _ (hb.alloc hb.size _) (fun hHeld => ?_)
                      clear hb
                      have hb := hHeld
                      obtain ⟨wB, hX⟩ : ∃ x, wA.alloc (.cells #[.int .i64 d.kind, .string d.name, .string d.base, .slice d.fA d.faces.length d.fc, .bool d.abs, .bool d.fin, .slice d.vA d.vs.length d.vc, .slice d.mA d.ms.length d.mc, .slice d.bA d.body.length d.bc, .int .i64 d.every, .int .i64 d.first] 34) = x := ⟨_, rfl⟩
                      simp only [hX] at *
                      clear hX
                      clear hK K
                      try simp only [Act.put, la3, la4, la5]
                      refine Ord.go_two (i := 5) (j := 7) (by kernel_rfl) (by kernel_rfl) ?_ ?_
                      ·
                        apply Ord.go_done1
                        next => (simp only [la0, la1, la2]; rfl)
                        next => rfl
                        intro K hK
                        refine wp_append_own wB _ _ 22 rfl w4.heap.size 34 i0 (.agg #[.int .i64 0, .string ⟨#[]⟩, .string ⟨#[]⟩, .slice none 0 0, .bool false, .bool false, .slice none 0 0, .slice none 0 0, .slice none 0 0, .int .i64 0, .int .i64 0]) 11 160 Tryz.underlying22 hi hz0 hz1 hz2 rfl (by decide) _ _ _ rfl HO1.out ⟨wA.heap.size, 0, none⟩ 1 1 [.int .i64 d.kind, .string d.name, .string d.base, .slice d.fA d.faces.length d.fc, .bool d.abs, .bool d.fin, .slice d.vA d.vs.length d.vc, .slice d.mA d.ms.length d.mc, .slice d.bA d.body.length d.bc, .int .i64 d.every, .int .i64 d.first] rfl rfl (has_add HG.out) ?d1 ?d2 ?d3 hb.size ?_
                        case d1 => exact fun x hx => dk_one [d] x (by simpa [Dk.cells] using hx)
                        case d2 => unfold maxLen; omega
                        case d3 => omega
                        intro v2 wC hown2 hgrow2 _
                        obtain ⟨A2, c2, rfl⟩ := own_sliceR hown2
                        refine hK.out _ _ (hb.grown hgrow2 hb.size (fun q hq => (HO1.out.lt q hq).1)) (fun hHeld => ?_)
                        have HO2 := Aid.hid hown2
                        clear hb hown2 hgrow2
                        have hb := hHeld
                        clear hK K
                        try simp only [Act.put, la3, la4, la5]
                        apply Ord.go_light (i := 6) (by kernel_rfl)
                        next => (simp only [la0, la1, la2]; rfl)
                        next => rfl
                        next => (intro w' hSw; obtain ⟨z0, z1, z2, z3, z4, z5, z6, z7, z8, z9, z10, z11⟩ := HZ.out w' hSw; clear hSw; go_simp; first | done | with_reducible rfl)
                        simp only [Act.put, la3, la4, la5]
                        refine Ord.go_one (i := 7) (by kernel_rfl) (by kernel_rfl) ?_
                        apply Ord.go_done1
                        next => (simp only [la0, la1, la2]; rfl)
                        next => rfl
                        intro K hK
                        go_wp2_with fail
                        have HGZ : Hid (w4.heap.size ≤ wC.heap.size) := Aid.hid hb.size
                        replace HO1 := Aid.hid (HO1.out.alloc (.cells #[.slice none 0 0] 24))
                        replace HO2 := Aid.hid (HO2.out.alloc (.cells #[.slice none 0 0] 24))
                        replace HG := Aid.hid (HG.out.alloc (.cells #[.slice none 0 0] 24))
                        have HUZ := Aid.hid (Aid.Has.new wC [.slice none 0 0] 24)
                        refine hK.out _ _ (hb.alloc hb.size _) (fun hHeld => ?_)
                        clear hb
                        have hb := hHeld
                        obtain ⟨wD, hX⟩ : ∃ x, wC.alloc (.cells #[.slice none 0 0] 24) = x := ⟨_, rfl⟩
                        simp only [hX] at *
                        clear hX
                        clear hK K
                        try simp only [Act.put, la3, la4, la5]
                        refine Ord.go_tail ?_; simp only [List.drop_succ_cons, List.drop_zero]
                        have hfin : MoreAt w4 (World.setRow wD (wC.heap.size) #[.slice A2 (u.length + 1) c2]) u d A2 c2 (wC.heap.size) := ⟨row_below hb (by have := hb.size; have := HUZ.out.lt; exact HGZ.out) _, row_has (ys := [.slice A2 (u.length + 1) c2]) HUZ.out, row_ownR HO2.out (fun q hq => own_ne_type HO2.out HUZ.out (by decide) q hq) _⟩
                        have HF := Aid.hid hfin
                        clear hfin
                        go_wp2_with (refine wpList_store_row rfl 24 _ _ rfl (wC.heap.size) _ rfl rfl 24 _ HUZ.out (by kernel_rfl) rfl (by simp [Value.oneCell']) ?_)
                        (try refine ⟨rfl, ?_⟩)
                        unfold Aid.Kept
                        skip
                        refine ⟨A2, c2, wC.heap.size, ?_, HF⟩
                        simp only [putL, Act.put, la3, la4, la5]
                        exact ⟨_, _, _, _, _, _, _, rfl⟩
                      ·
                        apply Ord.go_done1
                        next => (simp only [la0, la1, la2]; rfl)
                        next => rfl
                        intro K hK
                        go_wp2_with fail
                        have HGZ : Hid (w4.heap.size ≤ wB.heap.size) := Aid.hid hb.size
                        replace HO1 := Aid.hid (HO1.out.alloc (.cells #[.slice none 0 0] 24))
                        replace HG := Aid.hid (HG.out.alloc (.cells #[.slice none 0 0] 24))
                        have HUZ := Aid.hid (Aid.Has.new wB [.slice none 0 0] 24)
                        refine hK.out _ _ (hb.alloc hb.size _) (fun hHeld => ?_)
                        clear hb
                        have hb := hHeld
                        obtain ⟨wD, hX⟩ : ∃ x, wB.alloc (.cells #[.slice none 0 0] 24) = x := ⟨_, rfl⟩
                        simp only [hX] at *
                        clear hX
                        clear hK K
                        try simp only [Act.put, la3, la4, la5]
                        refine Ord.go_one (i := 5) (by kernel_rfl) (by kernel_rfl) ?_
                        apply Ord.go_done1
                        next => (simp only [la0, la1, la2]; rfl)
                        next => rfl
                        intro K hK
                        refine wp_append_own wD _ _ 22 rfl w4.heap.size 34 i0 (.agg #[.int .i64 0, .string ⟨#[]⟩, .string ⟨#[]⟩, .slice none 0 0, .bool false, .bool false, .slice none 0 0, .slice none 0 0, .slice none 0 0, .int .i64 0, .int .i64 0]) 11 160 Tryz.underlying22 hi hz0 hz1 hz2 rfl (by decide) _ _ _ rfl HO1.out ⟨wA.heap.size, 0, none⟩ 1 1 [.int .i64 d.kind, .string d.name, .string d.base, .slice d.fA d.faces.length d.fc, .bool d.abs, .bool d.fin, .slice d.vA d.vs.length d.vc, .slice d.mA d.ms.length d.mc, .slice d.bA d.body.length d.bc, .int .i64 d.every, .int .i64 d.first] rfl rfl (has_add HG.out) ?d1 ?d2 ?d3 hb.size ?_
                        case d1 => exact fun x hx => dk_one [d] x (by simpa [Dk.cells] using hx)
                        case d2 => unfold maxLen; omega
                        case d3 => omega
                        intro v2 wC hown2 hgrow2 _
                        obtain ⟨A2, c2, rfl⟩ := own_sliceR hown2
                        replace HUZ := Aid.hid (has_grownR HUZ.out hgrow2 (fun q hq => own_ne_type HO1.out HUZ.out (by decide) q hq))
                        refine hK.out _ _ (hb.grown hgrow2 hb.size (fun q hq => (HO1.out.lt q hq).1)) (fun hHeld => ?_)
                        have HO2 := Aid.hid hown2
                        clear hb hown2 hgrow2
                        have hb := hHeld
                        clear hK K
                        try simp only [Act.put, la3, la4, la5]
                        apply Ord.go_light (i := 6) (by kernel_rfl)
                        next => (simp only [la0, la1, la2]; rfl)
                        next => rfl
                        next => (intro w' hSw; obtain ⟨z0, z1, z2, z3, z4, z5, z6, z7, z8, z9, z10, z11⟩ := HZ.out w' hSw; clear hSw; go_simp; first | done | with_reducible rfl)
                        simp only [Act.put, la3, la4, la5]
                        refine Ord.go_tail ?_; simp only [List.drop_succ_cons, List.drop_zero]
                        have hfin : MoreAt w4 (World.setRow wC (wB.heap.size) #[.slice A2 (u.length + 1) c2]) u d A2 c2 (wB.heap.size) := ⟨row_below hb (by have := hb.size; have := HUZ.out.lt; exact HGZ.out) _, row_has (ys := [.slice A2 (u.length + 1) c2]) HUZ.out, row_ownR HO2.out (fun q hq => own_ne_type HO2.out HUZ.out (by decide) q hq) _⟩
                        have HF := Aid.hid hfin
                        clear hfin
                        go_wp2_with (refine wpList_store_row rfl 24 _ _ rfl (wB.heap.size) _ rfl rfl 24 _ HUZ.out (by kernel_rfl) rfl (by simp [Value.oneCell']) ?_)
                        (try refine ⟨rfl, ?_⟩)
                        unfold Aid.Kept
                        skip
                        refine ⟨A2, c2, wB.heap.size, ?_, HF⟩
                        simp only [putL, Act.put, la3, la4, la5]
                        exact ⟨_, _, _, _, _, _, _, rfl⟩
                    ·
                      apply Ord.go_done1
                      next => (simp only [la0, la1, la2]; rfl)
                      next => rfl
                      intro K hK
                      go_wp2_with fail
                      have HGZ : Hid (w4.heap.size ≤ wA.heap.size) := Aid.hid hb.size
                      replace HO1 := Aid.hid (HO1.out.alloc (.cells #[.slice none 0 0] 24))
                      have HUZ := Aid.hid (Aid.Has.new wA [.slice none 0 0] 24)
                      refine hK.out _ _ (hb.alloc hb.size _) (fun hHeld => ?_)
                      clear hb
                      have hb := hHeld
                      obtain ⟨wD, hX⟩ : ∃ x, wA.alloc (.cells #[.slice none 0 0] 24) = x := ⟨_, rfl⟩
                      simp only [hX] at *
                      clear hX
                      clear hK K
                      try simp only [Act.put, la3, la4, la5]
                      refine Ord.go_one (i := 4) (by kernel_rfl) (by kernel_rfl) ?_
                      apply Ord.go_done1
                      next => (simp only [la0, la1, la2]; rfl)
                      next => rfl
                      intro K hK
                      go_wp2_with fail
                      have HNE := Aid.hid (fun q (hq : (Value.slice A1 u.length c1).ownBlock = some q) => (show q ≠ wD.heap.size from by have := (HO1.out.lt q hq).2; omega))
                      replace HO1 := Aid.hid (HO1.out.alloc (.cells #[.int .i64 d.kind, .string d.name, .string d.base, .slice d.fA d.faces.length d.fc, .bool d.abs, .bool d.fin, .slice d.vA d.vs.length d.vc, .slice d.mA d.ms.length d.mc, .slice d.bA d.body.length d.bc, .int .i64 d.every, .int .i64 d.first] 34))
                      replace HUZ := Aid.hid (HUZ.out.alloc (.cells #[.int .i64 d.kind, .string d.name, .string d.base, .slice d.fA d.faces.length d.fc, .bool d.abs, .bool d.fin, .slice d.vA d.vs.length d.vc, .slice d.mA d.ms.length d.mc, .slice d.bA d.body.length d.bc, .int .i64 d.every, .int .i64 d.first] 34))
                      have HG := Aid.hid (Aid.Has.new wD [.int .i64 d.kind, .string d.name, .string d.base, .slice d.fA d.faces.length d.fc, .bool d.abs, .bool d.fin, .slice d.vA d.vs.length d.vc, .slice d.mA d.ms.length d.mc, .slice d.bA d.body.length d.bc, .int .i64 d.every, .int .i64 d.first] 34)
                      refine hK.out _ _ (hb.alloc hb.size _) (fun hHeld => ?_)
                      clear hb
                      have hb := hHeld
                      obtain ⟨wB, hX⟩ : ∃ x, wD.alloc (.cells #[.int .i64 d.kind, .string d.name, .string d.base, .slice d.fA d.faces.length d.fc, .bool d.abs, .bool d.fin, .slice d.vA d.vs.length d.vc, .slice d.mA d.ms.length d.mc, .slice d.bA d.body.length d.bc, .int .i64 d.every, .int .i64 d.first] 34) = x := ⟨_, rfl⟩
                      simp only [hX] at *
                      clear hX
                      clear hK K
                      try simp only [Act.put, la3, la4, la5]
                      refine Ord.go_one (i := 5) (by kernel_rfl) (by kernel_rfl) ?_
                      apply Ord.go_done1
                      next => (simp only [la0, la1, la2]; rfl)
                      next => rfl
                      intro K hK
                      refine wp_append_own wB _ _ 22 rfl w4.heap.size 34 i0 (.agg #[.int .i64 0, .string ⟨#[]⟩, .string ⟨#[]⟩, .slice none 0 0, .bool false, .bool false, .slice none 0 0, .slice none 0 0, .slice none 0 0, .int .i64 0, .int .i64 0]) 11 160 Tryz.underlying22 hi hz0 hz1 hz2 rfl (by decide) _ _ _ rfl HO1.out ⟨wD.heap.size, 0, none⟩ 1 1 [.int .i64 d.kind, .string d.name, .string d.base, .slice d.fA d.faces.length d.fc, .bool d.abs, .bool d.fin, .slice d.vA d.vs.length d.vc, .slice d.mA d.ms.length d.mc, .slice d.bA d.body.length d.bc, .int .i64 d.every, .int .i64 d.first] rfl rfl (has_add HG.out) ?d1 ?d2 ?d3 hb.size ?_
                      case d1 => exact fun x hx => dk_one [d] x (by simpa [Dk.cells] using hx)
                      case d2 => unfold maxLen; omega
                      case d3 => omega
                      intro v2 wC hown2 hgrow2 _
                      obtain ⟨A2, c2, rfl⟩ := own_sliceR hown2
                      replace HUZ := Aid.hid (has_grownR HUZ.out hgrow2 (fun q hq => own_ne_type HO1.out HUZ.out (by decide) q hq))
                      refine hK.out _ _ (hb.grown hgrow2 hb.size (fun q hq => (HO1.out.lt q hq).1)) (fun hHeld => ?_)
                      have HO2 := Aid.hid hown2
                      clear hb hown2 hgrow2
                      have hb := hHeld
                      clear hK K
                      try simp only [Act.put, la3, la4, la5]
                      apply Ord.go_light (i := 6) (by kernel_rfl)
                      next => (simp only [la0, la1, la2]; rfl)
                      next => rfl
                      next => (intro w' hSw; obtain ⟨z0, z1, z2, z3, z4, z5, z6, z7, z8, z9, z10, z11⟩ := HZ.out w' hSw; clear hSw; go_simp; first | done | with_reducible rfl)
                      simp only [Act.put, la3, la4, la5]
                      refine Ord.go_tail ?_; simp only [List.drop_succ_cons, List.drop_zero]
                      have hfin : MoreAt w4 (World.setRow wC (wA.heap.size) #[.slice A2 (u.length + 1) c2]) u d A2 c2 (wA.heap.size) := ⟨row_below hb (by have := hb.size; have := HUZ.out.lt; exact HGZ.out) _, row_has (ys := [.slice A2 (u.length + 1) c2]) HUZ.out, row_ownR HO2.out (fun q hq => own_ne_type HO2.out HUZ.out (by decide) q hq) _⟩
                      have HF := Aid.hid hfin
                      clear hfin
                      go_wp2_with (refine wpList_store_row rfl 24 _ _ rfl (wA.heap.size) _ rfl rfl 24 _ HUZ.out (by kernel_rfl) rfl (by simp [Value.oneCell']) ?_)
                      (try refine ⟨rfl, ?_⟩)
                      unfold Aid.Kept
                      skip
                      refine ⟨A2, c2, wA.heap.size, ?_, HF⟩
                      simp only [putL, Act.put, la3, la4, la5]
                      exact ⟨_, _, _, _, _, _, _, rfl⟩
                  ·
                    apply Ord.go_done1
                    next => (simp only [la0, la1, la2]; rfl)
                    next => rfl
                    intro K hK
                    go_wp2_with fail
                    have HG := Aid.hid (Aid.Has.new wd0 [.int .i64 d.kind, .string d.name, .string d.base, .slice d.fA d.faces.length d.fc, .bool d.abs, .bool d.fin, .slice d.vA d.vs.length d.vc, .slice d.mA d.ms.length d.mc, .slice d.bA d.body.length d.bc, .int .i64 d.every, .int .i64 d.first] 34)
                    refine hK.out _ _ (hb.alloc hb.size _) (fun hHeld => ?_)
                    clear hb
                    have hb := hHeld
                    obtain ⟨wB, hX⟩ : ∃ x, wd0.alloc (.cells #[.int .i64 d.kind, .string d.name, .string d.base, .slice d.fA d.faces.length d.fc, .bool d.abs, .bool d.fin, .slice d.vA d.vs.length d.vc, .slice d.mA d.ms.length d.mc, .slice d.bA d.body.length d.bc, .int .i64 d.every, .int .i64 d.first] 34) = x := ⟨_, rfl⟩
                    simp only [hX] at *
                    clear hX
                    clear hK K
                    try simp only [Act.put, la3, la4, la5]
                    refine Ord.go_two (i := 2) (j := 7) (by kernel_rfl) (by kernel_rfl) ?_ ?_
                    ·
                      apply Ord.go_done1
                      next => (simp only [la0, la1, la2]; rfl)
                      next => rfl
                      intro K hK
                      have hr0 := reads_uR (HU.out.below ((Kx4.out).trans (hb.mono (Kx4.out).size)) hB)
                      refine wp_append_anyR wB _ _ 22 rfl wB.heap.size 34 i0 (.agg #[.int .i64 0, .string ⟨#[]⟩, .string ⟨#[]⟩, .slice none 0 0, .bool false, .bool false, .slice none 0 0, .slice none 0 0, .slice none 0 0, .int .i64 0, .int .i64 0]) 11 160 Tryz.underlying22 hi hz0 hz1 hz2 rfl (by decide) (.slice none 0 0) 0 [] rfl (World.ownsRow_nil _ _ _ _) B (some ⟨ub, uo, none⟩) u.length cap _ rfl hr0 (dk_one u) ?c1 ?c2 (Nat.le_refl _) ?_
                      case c1 => unfold maxLen; omega
                      case c2 => omega
                      intro v1 wA hown1 hgrow1
                      simp only [Nat.zero_add, List.nil_append] at hown1
                      obtain ⟨A1, c1, rfl⟩ := own_sliceR hown1
                      have hbA : Below wB.heap.size wB wA := (Below.refl _ _).grown hgrow1 (Nat.le_refl _) (fun q hq => by simp [Value.ownBlock] at hq)
                      have HNE := Aid.hid (fun q (hq : (Value.slice A1 u.length c1).ownBlock = some q) => (show q ≠ wd0.heap.size from by have := (hown1.lt q hq).1; have := HG.out.lt; omega))
                      replace HG := Aid.hid (HG.out.below hbA HG.out.lt)
                      refine hK.out _ _ (hb.trans (hbA.mono hb.size)) (fun hHeld => ?_)
                      have HO1 := Aid.hid (own_lowers hown1 hb.size)
                      clear hb hbA hown1 hgrow1 hr0
                      have hb := hHeld
                      clear hK K
                      try simp only [Act.put, la3, la4, la5]
                      refine Ord.go_two (i := 5) (j := 7) (by kernel_rfl) (by kernel_rfl) ?_ ?_
                      ·
                        apply Ord.go_done1
                        next => (simp only [la0, la1, la2]; rfl)
                        next => rfl
                        intro K hK
                        refine wp_append_own wA _ _ 22 rfl w4.heap.size 34 i0 (.agg #[.int .i64 0, .string ⟨#[]⟩, .string ⟨#[]⟩, .slice none 0 0, .bool false, .bool false, .slice none 0 0, .slice none 0 0, .slice none 0 0, .int .i64 0, .int .i64 0]) 11 160 Tryz.underlying22 hi hz0 hz1 hz2 rfl (by decide) _ _ _ rfl HO1.out ⟨wd0.heap.size, 0, none⟩ 1 1 [.int .i64 d.kind, .string d.name, .string d.base, .slice d.fA d.faces.length d.fc, .bool d.abs, .bool d.fin, .slice d.vA d.vs.length d.vc, .slice d.mA d.ms.length d.mc, .slice d.bA d.body.length d.bc, .int .i64 d.every, .int .i64 d.first] rfl rfl (has_add HG.out) ?d1 ?d2 ?d3 hb.size ?_
                        case d1 => exact fun x hx => dk_one [d] x (by simpa [Dk.cells] using hx)
                        case d2 => unfold maxLen; omega
                        case d3 => omega
                        intro v2 wC hown2 hgrow2 _
                        obtain ⟨A2, c2, rfl⟩ := own_sliceR hown2
                        refine hK.out _ _ (hb.grown hgrow2 hb.size (fun q hq => (HO1.out.lt q hq).1)) (fun hHeld => ?_)
                        have HO2 := Aid.hid hown2
                        clear hb hown2 hgrow2
                        have hb := hHeld
                        clear hK K
                        try simp only [Act.put, la3, la4, la5]
                        apply Ord.go_light (i := 6) (by kernel_rfl)
                        next => (simp only [la0, la1, la2]; rfl)
                        next => rfl
                        next => (intro w' hSw; obtain ⟨z0, z1, z2, z3, z4, z5, z6, z7, z8, z9, z10, z11⟩ := HZ.out w' hSw; clear hSw; go_simp; first | done | with_reducible rfl)
                        simp only [Act.put, la3, la4, la5]
                        refine Ord.go_one (i := 7) (by kernel_rfl) (by kernel_rfl) ?_
                        apply Ord.go_done1
                        next => (simp only [la0, la1, la2]; rfl)
                        next => rfl
                        intro K hK
                        go_wp2_with fail
                        have HGZ : Hid (w4.heap.size ≤ wC.heap.size) := Aid.hid hb.size
                        replace HO1 := Aid.hid (HO1.out.alloc (.cells #[.slice none 0 0] 24))
                        replace HO2 := Aid.hid (HO2.out.alloc (.cells #[.slice none 0 0] 24))
                        replace HG := Aid.hid (HG.out.alloc (.cells #[.slice none 0 0] 24))
                        have HUZ := Aid.hid (Aid.Has.new wC [.slice none 0 0] 24)
                        refine hK.out _ _ (hb.alloc hb.size _) (fun hHeld => ?_)
                        clear hb
                        have hb := hHeld
                        obtain ⟨wD, hX⟩ : ∃ x, wC.alloc (.cells #[.slice none 0 0] 24) = x := ⟨_, rfl⟩
                        simp only [hX] at *
                        clear hX
                        clear hK K
                        try simp only [Act.put, la3, la4, la5]
                        refine Ord.go_tail ?_; simp only [List.drop_succ_cons, List.drop_zero]
                        have hfin : MoreAt w4 (World.setRow wD (wC.heap.size) #[.slice A2 (u.length + 1) c2]) u d A2 c2 (wC.heap.size) := ⟨row_below hb (by have := hb.size; have := HUZ.out.lt; exact HGZ.out) _, row_has (ys := [.slice A2 (u.length + 1) c2]) HUZ.out, row_ownR HO2.out (fun q hq => own_ne_type HO2.out HUZ.out (by decide) q hq) _⟩
                        have HF := Aid.hid hfin
                        clear hfin
                        go_wp2_with (refine wpList_store_row rfl 24 _ _ rfl (wC.heap.size) _ rfl rfl 24 _ HUZ.out (by kernel_rfl) rfl (by simp [Value.oneCell']) ?_)
                        (try refine ⟨rfl, ?_⟩)
                        unfold Aid.Kept
                        skip
                        refine ⟨A2, c2, wC.heap.size, ?_, HF⟩
                        simp only [putL, Act.put, la3, la4, la5]
                        exact ⟨_, _, _, _, _, _, _, rfl⟩
                      ·
                        apply Ord.go_done1
                        next => (simp only [la0, la1, la2]; rfl)
                        next => rfl
                        intro K hK
                        go_wp2_with fail
                        have HGZ : Hid (w4.heap.size ≤ wA.heap.size) := Aid.hid hb.size
                        replace HO1 := Aid.hid (HO1.out.alloc (.cells #[.slice none 0 0] 24))
                        replace HG := Aid.hid (HG.out.alloc (.cells #[.slice none 0 0] 24))
                        have HUZ := Aid.hid (Aid.Has.new wA [.slice none 0 0] 24)
                        refine hK.out _ _ (hb.alloc hb.size _) (fun hHeld => ?_)
                        clear hb
                        have hb := hHeld
                        obtain ⟨wD, hX⟩ : ∃ x, wA.alloc (.cells #[.slice none 0 0] 24) = x := ⟨_, rfl⟩
                        simp only [hX] at *
                        clear hX
                        clear hK K
                        try simp only [Act.put, la3, la4, la5]
                        refine Ord.go_one (i := 5) (by kernel_rfl) (by kernel_rfl) ?_
                        apply Ord.go_done1
                        next => (simp only [la0, la1, la2]; rfl)
                        next => rfl
                        intro K hK
                        refine wp_append_own wD _ _ 22 rfl w4.heap.size 34 i0 (.agg #[.int .i64 0, .string ⟨#[]⟩, .string ⟨#[]⟩, .slice none 0 0, .bool false, .bool false, .slice none 0 0, .slice none 0 0, .slice none 0 0, .int .i64 0, .int .i64 0]) 11 160 Tryz.underlying22 hi hz0 hz1 hz2 rfl (by decide) _ _ _ rfl HO1.out ⟨wd0.heap.size, 0, none⟩ 1 1 [.int .i64 d.kind, .string d.name, .string d.base, .slice d.fA d.faces.length d.fc, .bool d.abs, .bool d.fin, .slice d.vA d.vs.length d.vc, .slice d.mA d.ms.length d.mc, .slice d.bA d.body.length d.bc, .int .i64 d.every, .int .i64 d.first] rfl rfl (has_add HG.out) ?d1 ?d2 ?d3 hb.size ?_
                        case d1 => exact fun x hx => dk_one [d] x (by simpa [Dk.cells] using hx)
                        case d2 => unfold maxLen; omega
                        case d3 => omega
                        intro v2 wC hown2 hgrow2 _
                        obtain ⟨A2, c2, rfl⟩ := own_sliceR hown2
                        replace HUZ := Aid.hid (has_grownR HUZ.out hgrow2 (fun q hq => own_ne_type HO1.out HUZ.out (by decide) q hq))
                        refine hK.out _ _ (hb.grown hgrow2 hb.size (fun q hq => (HO1.out.lt q hq).1)) (fun hHeld => ?_)
                        have HO2 := Aid.hid hown2
                        clear hb hown2 hgrow2
                        have hb := hHeld
                        clear hK K
                        try simp only [Act.put, la3, la4, la5]
                        apply Ord.go_light (i := 6) (by kernel_rfl)
                        next => (simp only [la0, la1, la2]; rfl)
                        next => rfl
                        next => (intro w' hSw; obtain ⟨z0, z1, z2, z3, z4, z5, z6, z7, z8, z9, z10, z11⟩ := HZ.out w' hSw; clear hSw; go_simp; first | done | with_reducible rfl)
                        simp only [Act.put, la3, la4, la5]
                        refine Ord.go_tail ?_; simp only [List.drop_succ_cons, List.drop_zero]
                        have hfin : MoreAt w4 (World.setRow wC (wA.heap.size) #[.slice A2 (u.length + 1) c2]) u d A2 c2 (wA.heap.size) := ⟨row_below hb (by have := hb.size; have := HUZ.out.lt; exact HGZ.out) _, row_has (ys := [.slice A2 (u.length + 1) c2]) HUZ.out, row_ownR HO2.out (fun q hq => own_ne_type HO2.out HUZ.out (by decide) q hq) _⟩
                        have HF := Aid.hid hfin
                        clear hfin
                        go_wp2_with (refine wpList_store_row rfl 24 _ _ rfl (wA.heap.size) _ rfl rfl 24 _ HUZ.out (by kernel_rfl) rfl (by simp [Value.oneCell']) ?_)
                        (try refine ⟨rfl, ?_⟩)
                        unfold Aid.Kept
                        skip
                        refine ⟨A2, c2, wA.heap.size, ?_, HF⟩
                        simp only [putL, Act.put, la3, la4, la5]
                        exact ⟨_, _, _, _, _, _, _, rfl⟩
                    ·
                      apply Ord.go_done1
                      next => (simp only [la0, la1, la2]; rfl)
                      next => rfl
                      intro K hK
                      go_wp2_with fail
                      have HGZ : Hid (w4.heap.size ≤ wB.heap.size) := Aid.hid hb.size
                      replace HG := Aid.hid (HG.out.alloc (.cells #[.slice none 0 0] 24))
                      have HUZ := Aid.hid (Aid.Has.new wB [.slice none 0 0] 24)
                      refine hK.out _ _ (hb.alloc hb.size _) (fun hHeld => ?_)
                      clear hb
                      have hb := hHeld
                      obtain ⟨wD, hX⟩ : ∃ x, wB.alloc (.cells #[.slice none 0 0] 24) = x := ⟨_, rfl⟩
                      simp only [hX] at *
                      clear hX
                      clear hK K
                      try simp only [Act.put, la3, la4, la5]
                      refine Ord.go_one (i := 2) (by kernel_rfl) (by kernel_rfl) ?_
                      apply Ord.go_done1
                      next => (simp only [la0, la1, la2]; rfl)
                      next => rfl
                      intro K hK
                      have hr0 := reads_uR (HU.out.below ((Kx4.out).trans (hb.mono (Kx4.out).size)) hB)
                      refine wp_append_anyR wD _ _ 22 rfl wD.heap.size 34 i0 (.agg #[.int .i64 0, .string ⟨#[]⟩, .string ⟨#[]⟩, .slice none 0 0, .bool false, .bool false, .slice none 0 0, .slice none 0 0, .slice none 0 0, .int .i64 0, .int .i64 0]) 11 160 Tryz.underlying22 hi hz0 hz1 hz2 rfl (by decide) (.slice none 0 0) 0 [] rfl (World.ownsRow_nil _ _ _ _) B (some ⟨ub, uo, none⟩) u.length cap _ rfl hr0 (dk_one u) ?c1 ?c2 (Nat.le_refl _) ?_
                      case c1 => unfold maxLen; omega
                      case c2 => omega
                      intro v1 wA hown1 hgrow1
                      simp only [Nat.zero_add, List.nil_append] at hown1
                      obtain ⟨A1, c1, rfl⟩ := own_sliceR hown1
                      have hbA : Below wD.heap.size wD wA := (Below.refl _ _).grown hgrow1 (Nat.le_refl _) (fun q hq => by simp [Value.ownBlock] at hq)
                      have HNE := Aid.hid (fun q (hq : (Value.slice A1 u.length c1).ownBlock = some q) => (show q ≠ wd0.heap.size from by have := (hown1.lt q hq).1; have := HG.out.lt; omega))
                      replace HG := Aid.hid (HG.out.below hbA HG.out.lt)
                      replace HUZ := Aid.hid (HUZ.out.below hbA HUZ.out.lt)
                      refine hK.out _ _ (hb.trans (hbA.mono hb.size)) (fun hHeld => ?_)
                      have HO1 := Aid.hid (own_lowers hown1 hb.size)
                      clear hb hbA hown1 hgrow1 hr0
                      have hb := hHeld
                      clear hK K
                      try simp only [Act.put, la3, la4, la5]
                      refine Ord.go_one (i := 5) (by kernel_rfl) (by kernel_rfl) ?_
                      apply Ord.go_done1
                      next => (simp only [la0, la1, la2]; rfl)
                      next => rfl
                      intro K hK
                      refine wp_append_own wA _ _ 22 rfl w4.heap.size 34 i0 (.agg #[.int .i64 0, .string ⟨#[]⟩, .string ⟨#[]⟩, .slice none 0 0, .bool false, .bool false, .slice none 0 0, .slice none 0 0, .slice none 0 0, .int .i64 0, .int .i64 0]) 11 160 Tryz.underlying22 hi hz0 hz1 hz2 rfl (by decide) _ _ _ rfl HO1.out ⟨wd0.heap.size, 0, none⟩ 1 1 [.int .i64 d.kind, .string d.name, .string d.base, .slice d.fA d.faces.length d.fc, .bool d.abs, .bool d.fin, .slice d.vA d.vs.length d.vc, .slice d.mA d.ms.length d.mc, .slice d.bA d.body.length d.bc, .int .i64 d.every, .int .i64 d.first] rfl rfl (has_add HG.out) ?d1 ?d2 ?d3 hb.size ?_
                      case d1 => exact fun x hx => dk_one [d] x (by simpa [Dk.cells] using hx)
                      case d2 => unfold maxLen; omega
                      case d3 => omega
                      intro v2 wC hown2 hgrow2 _
                      obtain ⟨A2, c2, rfl⟩ := own_sliceR hown2
                      replace HUZ := Aid.hid (has_grownR HUZ.out hgrow2 (fun q hq => own_ne_type HO1.out HUZ.out (by decide) q hq))
                      refine hK.out _ _ (hb.grown hgrow2 hb.size (fun q hq => (HO1.out.lt q hq).1)) (fun hHeld => ?_)
                      have HO2 := Aid.hid hown2
                      clear hb hown2 hgrow2
                      have hb := hHeld
                      clear hK K
                      try simp only [Act.put, la3, la4, la5]
                      apply Ord.go_light (i := 6) (by kernel_rfl)
                      next => (simp only [la0, la1, la2]; rfl)
                      next => rfl
                      next => (intro w' hSw; obtain ⟨z0, z1, z2, z3, z4, z5, z6, z7, z8, z9, z10, z11⟩ := HZ.out w' hSw; clear hSw; go_simp; first | done | with_reducible rfl)
                      simp only [Act.put, la3, la4, la5]
                      refine Ord.go_tail ?_; simp only [List.drop_succ_cons, List.drop_zero]
                      have hfin : MoreAt w4 (World.setRow wC (wB.heap.size) #[.slice A2 (u.length + 1) c2]) u d A2 c2 (wB.heap.size) := ⟨row_below hb (by have := hb.size; have := HUZ.out.lt; exact HGZ.out) _, row_has (ys := [.slice A2 (u.length + 1) c2]) HUZ.out, row_ownR HO2.out (fun q hq => own_ne_type HO2.out HUZ.out (by decide) q hq) _⟩
                      have HF := Aid.hid hfin
                      clear hfin
                      go_wp2_with (refine wpList_store_row rfl 24 _ _ rfl (wB.heap.size) _ rfl rfl 24 _ HUZ.out (by kernel_rfl) rfl (by simp [Value.oneCell']) ?_)
                      (try refine ⟨rfl, ?_⟩)
                      unfold Aid.Kept
                      skip
                      refine ⟨A2, c2, wB.heap.size, ?_, HF⟩
                      simp only [putL, Act.put, la3, la4, la5]
                      exact ⟨_, _, _, _, _, _, _, rfl⟩
                  ·
                    apply Ord.go_done1
                    next => (simp only [la0, la1, la2]; rfl)
                    next => rfl
                    intro K hK
                    go_wp2_with fail
                    have HGZ : Hid (w4.heap.size ≤ wd0.heap.size) := Aid.hid hb.size
                    have HUZ := Aid.hid (Aid.Has.new wd0 [.slice none 0 0] 24)
                    refine hK.out _ _ (hb.alloc hb.size _) (fun hHeld => ?_)
                    clear hb
                    have hb := hHeld
                    obtain ⟨wD, hX⟩ : ∃ x, wd0.alloc (.cells #[.slice none 0 0] 24) = x := ⟨_, rfl⟩
                    simp only [hX] at *
                    clear hX
                    clear hK K
                    try simp only [Act.put, la3, la4, la5]
                    refine Ord.go_two (i := 2) (j := 4) (by kernel_rfl) (by kernel_rfl) ?_ ?_
                    ·
                      apply Ord.go_done1
                      next => (simp only [la0, la1, la2]; rfl)
                      next => rfl
                      intro K hK
                      have hr0 := reads_uR (HU.out.below ((Kx4.out).trans (hb.mono (Kx4.out).size)) hB)
                      refine wp_append_anyR wD _ _ 22 rfl wD.heap.size 34 i0 (.agg #[.int .i64 0, .string ⟨#[]⟩, .string ⟨#[]⟩, .slice none 0 0, .bool false, .bool false, .slice none 0 0, .slice none 0 0, .slice none 0 0, .int .i64 0, .int .i64 0]) 11 160 Tryz.underlying22 hi hz0 hz1 hz2 rfl (by decide) (.slice none 0 0) 0 [] rfl (World.ownsRow_nil _ _ _ _) B (some ⟨ub, uo, none⟩) u.length cap _ rfl hr0 (dk_one u) ?c1 ?c2 (Nat.le_refl _) ?_
                      case c1 => unfold maxLen; omega
                      case c2 => omega
                      intro v1 wA hown1 hgrow1
                      simp only [Nat.zero_add, List.nil_append] at hown1
                      obtain ⟨A1, c1, rfl⟩ := own_sliceR hown1
                      have hbA : Below wD.heap.size wD wA := (Below.refl _ _).grown hgrow1 (Nat.le_refl _) (fun q hq => by simp [Value.ownBlock] at hq)
                      replace HUZ := Aid.hid (HUZ.out.below hbA HUZ.out.lt)
                      refine hK.out _ _ (hb.trans (hbA.mono hb.size)) (fun hHeld => ?_)
                      have HO1 := Aid.hid (own_lowers hown1 hb.size)
                      clear hb hbA hown1 hgrow1 hr0
                      have hb := hHeld
                      clear hK K
                      try simp only [Act.put, la3, la4, la5]
                      refine Ord.go_one (i := 4) (by kernel_rfl) (by kernel_rfl) ?_
                      apply Ord.go_done1
                      next => (simp only [la0, la1, la2]; rfl)
                      next => rfl
                      intro K hK
                      go_wp2_with fail
                      have HNE := Aid.hid (fun q (hq : (Value.slice A1 u.length c1).ownBlock = some q) => (show q ≠ wA.heap.size from by have := (HO1.out.lt q hq).2; omega))
                      replace HO1 := Aid.hid (HO1.out.alloc (.cells #[.int .i64 d.kind, .string d.name, .string d.base, .slice d.fA d.faces.length d.fc, .bool d.abs, .bool d.fin, .slice d.vA d.vs.length d.vc, .slice d.mA d.ms.length d.mc, .slice d.bA d.body.length d.bc, .int .i64 d.every, .int .i64 d.first] 34))
                      replace HUZ := Aid.hid (HUZ.out.alloc (.cells #[.int .i64 d.kind, .string d.name, .string d.base, .slice d.fA d.faces.length d.fc, .bool d.abs, .bool d.fin, .slice d.vA d.vs.length d.vc, .slice d.mA d.ms.length d.mc, .slice d.bA d.body.length d.bc, .int .i64 d.every, .int .i64 d.first] 34))
                      have HG := Aid.hid (Aid.Has.new wA [.int .i64 d.kind, .string d.name, .string d.base, .slice d.fA d.faces.length d.fc, .bool d.abs, .bool d.fin, .slice d.vA d.vs.length d.vc, .slice d.mA d.ms.length d.mc, .slice d.bA d.body.length d.bc, .int .i64 d.every, .int .i64 d.first] 34)
                      refine hK.out _ _ (hb.alloc hb.size _) (fun hHeld => ?_)
                      clear hb
                      have hb := hHeld
                      obtain ⟨wB, hX⟩ : ∃ x, wA.alloc (.cells #[.int .i64 d.kind, .string d.name, .string d.base, .slice d.fA d.faces.length d.fc, .bool d.abs, .bool d.fin, .slice d.vA d.vs.length d.vc, .slice d.mA d.ms.length d.mc, .slice d.bA d.body.length d.bc, .int .i64 d.every, .int .i64 d.first] 34) = x := ⟨_, rfl⟩
                      simp only [hX] at *
                      clear hX
                      clear hK K
                      try simp only [Act.put, la3, la4, la5]
                      refine Ord.go_one (i := 5) (by kernel_rfl) (by kernel_rfl) ?_
                      apply Ord.go_done1
                      next => (simp only [la0, la1, la2]; rfl)
                      next => rfl
                      intro K hK
                      refine wp_append_own wB _ _ 22 rfl w4.heap.size 34 i0 (.agg #[.int .i64 0, .string ⟨#[]⟩, .string ⟨#[]⟩, .slice none 0 0, .bool false, .bool false, .slice none 0 0, .slice none 0 0, .slice none 0 0, .int .i64 0, .int .i64 0]) 11 160 Tryz.underlying22 hi hz0 hz1 hz2 rfl (by decide) _ _ _ rfl HO1.out ⟨wA.heap.size, 0, none⟩ 1 1 [.int .i64 d.kind, .string d.name, .string d.base, .slice d.fA d.faces.length d.fc, .bool d.abs, .bool d.fin, .slice d.vA d.vs.length d.vc, .slice d.mA d.ms.length d.mc, .slice d.bA d.body.length d.bc, .int .i64 d.every, .int .i64 d.first] rfl rfl (has_add HG.out) ?d1 ?d2 ?d3 hb.size ?_
                      case d1 => exact fun x hx => dk_one [d] x (by simpa [Dk.cells] using hx)
                      case d2 => unfold maxLen; omega
                      case d3 => omega
                      intro v2 wC hown2 hgrow2 _
                      obtain ⟨A2, c2, rfl⟩ := own_sliceR hown2
                      replace HUZ := Aid.hid (has_grownR HUZ.out hgrow2 (fun q hq => own_ne_type HO1.out HUZ.out (by decide) q hq))
                      refine hK.out _ _ (hb.grown hgrow2 hb.size (fun q hq => (HO1.out.lt q hq).1)) (fun hHeld => ?_)
                      have HO2 := Aid.hid hown2
                      clear hb hown2 hgrow2
                      have hb := hHeld
                      clear hK K
                      try simp only [Act.put, la3, la4, la5]
                      apply Ord.go_light (i := 6) (by kernel_rfl)
                      next => (simp only [la0, la1, la2]; rfl)
                      next => rfl
                      next => (intro w' hSw; obtain ⟨z0, z1, z2, z3, z4, z5, z6, z7, z8, z9, z10, z11⟩ := HZ.out w' hSw; clear hSw; go_simp; first | done | with_reducible rfl)
                      simp only [Act.put, la3, la4, la5]
                      refine Ord.go_tail ?_; simp only [List.drop_succ_cons, List.drop_zero]
                      have hfin : MoreAt w4 (World.setRow wC (wd0.heap.size) #[.slice A2 (u.length + 1) c2]) u d A2 c2 (wd0.heap.size) := ⟨row_below hb (by have := hb.size; have := HUZ.out.lt; exact HGZ.out) _, row_has (ys := [.slice A2 (u.length + 1) c2]) HUZ.out, row_ownR HO2.out (fun q hq => own_ne_type HO2.out HUZ.out (by decide) q hq) _⟩
                      have HF := Aid.hid hfin
                      clear hfin
                      go_wp2_with (refine wpList_store_row rfl 24 _ _ rfl (wd0.heap.size) _ rfl rfl 24 _ HUZ.out (by kernel_rfl) rfl (by simp [Value.oneCell']) ?_)
                      (try refine ⟨rfl, ?_⟩)
                      unfold Aid.Kept
                      skip
                      refine ⟨A2, c2, wd0.heap.size, ?_, HF⟩
                      simp only [putL, Act.put, la3, la4, la5]
                      exact ⟨_, _, _, _, _, _, _, rfl⟩
                    ·
                      apply Ord.go_done1
                      next => (simp only [la0, la1, la2]; rfl)
                      next => rfl
                      intro K hK
                      go_wp2_with fail
                      replace HUZ := Aid.hid (HUZ.out.alloc (.cells #[.int .i64 d.kind, .string d.name, .string d.base, .slice d.fA d.faces.length d.fc, .bool d.abs, .bool d.fin, .slice d.vA d.vs.length d.vc, .slice d.mA d.ms.length d.mc, .slice d.bA d.body.length d.bc, .int .i64 d.every, .int .i64 d.first] 34))
                      have HG := Aid.hid (Aid.Has.new wD [.int .i64 d.kind, .string d.name, .string d.base, .slice d.fA d.faces.length d.fc, .bool d.abs, .bool d.fin, .slice d.vA d.vs.length d.vc, .slice d.mA d.ms.length d.mc, .slice d.bA d.body.length d.bc, .int .i64 d.every, .int .i64 d.first] 34)
                      refine hK.out _ _ (hb.alloc hb.size _) (fun hHeld => ?_)
                      clear hb
                      have hb := hHeld
                      obtain ⟨wB, hX⟩ : ∃ x, wD.alloc (.cells #[.int .i64 d.kind, .string d.name, .string d.base, .slice d.fA d.faces.length d.fc, .bool d.abs, .bool d.fin, .slice d.vA d.vs.length d.vc, .slice d.mA d.ms.length d.mc, .slice d.bA d.body.length d.bc, .int .i64 d.every, .int .i64 d.first] 34) = x := ⟨_, rfl⟩
                      simp only [hX] at *
                      clear hX
                      clear hK K
                      try simp only [Act.put, la3, la4, la5]
                      refine Ord.go_one (i := 2) (by kernel_rfl) (by kernel_rfl) ?_
                      apply Ord.go_done1
                      next => (simp only [la0, la1, la2]; rfl)
                      next => rfl
                      intro K hK
                      have hr0 := reads_uR (HU.out.below ((Kx4.out).trans (hb.mono (Kx4.out).size)) hB)
                      refine wp_append_anyR wB _ _ 22 rfl wB.heap.size 34 i0 (.agg #[.int .i64 0, .string ⟨#[]⟩, .string ⟨#[]⟩, .slice none 0 0, .bool false, .bool false, .slice none 0 0, .slice none 0 0, .slice none 0 0, .int .i64 0, .int .i64 0]) 11 160 Tryz.underlying22 hi hz0 hz1 hz2 rfl (by decide) (.slice none 0 0) 0 [] rfl (World.ownsRow_nil _ _ _ _) B (some ⟨ub, uo, none⟩) u.length cap _ rfl hr0 (dk_one u) ?c1 ?c2 (Nat.le_refl _) ?_
                      case c1 => unfold maxLen; omega
                      case c2 => omega
                      intro v1 wA hown1 hgrow1
                      simp only [Nat.zero_add, List.nil_append] at hown1
                      obtain ⟨A1, c1, rfl⟩ := own_sliceR hown1
                      have hbA : Below wB.heap.size wB wA := (Below.refl _ _).grown hgrow1 (Nat.le_refl _) (fun q hq => by simp [Value.ownBlock] at hq)
                      have HNE := Aid.hid (fun q (hq : (Value.slice A1 u.length c1).ownBlock = some q) => (show q ≠ wD.heap.size from by have := (hown1.lt q hq).1; have := HG.out.lt; omega))
                      replace HG := Aid.hid (HG.out.below hbA HG.out.lt)
                      replace HUZ := Aid.hid (HUZ.out.below hbA HUZ.out.lt)
                      refine hK.out _ _ (hb.trans (hbA.mono hb.size)) (fun hHeld => ?_)
                      have HO1 := Aid.hid (own_lowers hown1 hb.size)
                      clear hb hbA hown1 hgrow1 hr0
                      have hb := hHeld
                      clear hK K
                      try simp only [Act.put, la3, la4, la5]
                      refine Ord.go_one (i := 5) (by kernel_rfl) (by kernel_rfl) ?_
                      apply Ord.go_done1
                      next => (simp only [la0, la1, la2]; rfl)
                      next => rfl
                      intro K hK
                      refine wp_append_own wA _ _ 22 rfl w4.heap.size 34 i0 (.agg #[.int .i64 0, .string ⟨#[]⟩, .string ⟨#[]⟩, .slice none 0 0, .bool false, .bool false, .slice none 0 0, .slice none 0 0, .slice none 0 0, .int .i64 0, .int .i64 0]) 11 160 Tryz.underlying22 hi hz0 hz1 hz2 rfl (by decide) _ _ _ rfl HO1.out ⟨wD.heap.size, 0, none⟩ 1 1 [.int .i64 d.kind, .string d.name, .string d.base, .slice d.fA d.faces.length d.fc, .bool d.abs, .bool d.fin, .slice d.vA d.vs.length d.vc, .slice d.mA d.ms.length d.mc, .slice d.bA d.body.length d.bc, .int .i64 d.every, .int .i64 d.first] rfl rfl (has_add HG.out) ?d1 ?d2 ?d3 hb.size ?_
                      case d1 => exact fun x hx => dk_one [d] x (by simpa [Dk.cells] using hx)
                      case d2 => unfold maxLen; omega
                      case d3 => omega
                      intro v2 wC hown2 hgrow2 _
                      obtain ⟨A2, c2, rfl⟩ := own_sliceR hown2
                      replace HUZ := Aid.hid (has_grownR HUZ.out hgrow2 (fun q hq => own_ne_type HO1.out HUZ.out (by decide) q hq))
                      refine hK.out _ _ (hb.grown hgrow2 hb.size (fun q hq => (HO1.out.lt q hq).1)) (fun hHeld => ?_)
                      have HO2 := Aid.hid hown2
                      clear hb hown2 hgrow2
                      have hb := hHeld
                      clear hK K
                      try simp only [Act.put, la3, la4, la5]
                      apply Ord.go_light (i := 6) (by kernel_rfl)
                      next => (simp only [la0, la1, la2]; rfl)
                      next => rfl
                      next => (intro w' hSw; obtain ⟨z0, z1, z2, z3, z4, z5, z6, z7, z8, z9, z10, z11⟩ := HZ.out w' hSw; clear hSw; go_simp; first | done | with_reducible rfl)
                      simp only [Act.put, la3, la4, la5]
                      refine Ord.go_tail ?_; simp only [List.drop_succ_cons, List.drop_zero]
                      have hfin : MoreAt w4 (World.setRow wC (wd0.heap.size) #[.slice A2 (u.length + 1) c2]) u d A2 c2 (wd0.heap.size) := ⟨row_below hb (by have := hb.size; have := HUZ.out.lt; exact HGZ.out) _, row_has (ys := [.slice A2 (u.length + 1) c2]) HUZ.out, row_ownR HO2.out (fun q hq => own_ne_type HO2.out HUZ.out (by decide) q hq) _⟩
                      have HF := Aid.hid hfin
                      clear hfin
                      go_wp2_with (refine wpList_store_row rfl 24 _ _ rfl (wd0.heap.size) _ rfl rfl 24 _ HUZ.out (by kernel_rfl) rfl (by simp [Value.oneCell']) ?_)
                      (try refine ⟨rfl, ?_⟩)
                      unfold Aid.Kept
                      skip
                      refine ⟨A2, c2, wd0.heap.size, ?_, HF⟩
                      simp only [putL, Act.put, la3, la4, la5]
                      exact ⟨_, _, _, _, _, _, _, rfl⟩
                rintro e' a' w5 ⟨rfl, A2, c2, gz, v55, v56, v57, v58, v59, v60, v61, rfl, HMORE⟩
                simp only [putL, Act.put, la3, la4, la5]
                clear hi hz0 hz1 hz2
                have hb5 := HMORE.out.b
                have Kx5 := Aid.hid ((Kx4.out).trans (hb5.mono (Kx4.out).size))
                have Nu_5 := Aid.hid (Nu_4.out.below hb5 Nu_4.out.lt)
                have Nnew2_5 := Aid.hid (Nnew2_4.out.below hb5 Nnew2_4.out.lt)
                clear xu0 lu xnew20 xnew21 xnew22 xnew23 xnew24 xnew25 xnew26 xnew27 xnew28 xnew29 xnew210 lnew2
                clear hb5
                obtain ⟨HUM, hcm⟩ := unit_moreR HMORE.out (HU.out.below (Kx5.out) hB).decls (HDK.out.below (Kx5.out) hB) (Nat.le_trans hB (Kx5.out).size) hn16
                have HVM := Aid.hid HUM
                obtain ⟨zs, hzs⟩ : ∃ zs, Ru.unit u = zs := ⟨_, rfl⟩
                have HZS := Aid.hid hzs
                have HZM : Hid (Ru.unit (u ++ [d]) = zs ++ [(6, (u.length : Int))]) := Aid.hid (by rw [← hzs]; exact Ru.unit_again HMEM.out (by omega) HKK.out HGR.out)
                have hzl : zs.length ≤ 11 := by rw [← hzs]; exact Nat.le_trans (Ru.unitFrom_len u _ _) (by omega)
                have HBM : Hid (RBodies w5 w5.heap.size (u ++ [d])) := Aid.hid ((HBO.out.below (Kx5.out) hB).sub (fun x hx => mem_snocR hx HMEM.out) (Nat.le_trans hB (Kx5.out).size))
                have HAM : Hid (RAll (u ++ [d]) c2) := Aid.hid (HA2.out.sub (fun x hx => mem_snocR hx HMEM.out) (by simp; omega) (by simp; omega))
                clear hzs HUM
                have Nm := Aid.hid HMORE.out.z
                have xu0 := Nu_5.out.cell 0 _ rfl
                have lu := Nu_5.out.lt
                have xmore0 := Nm.out.cell 0 _ rfl
                have lmore := Nm.out.lt
                go_wp2_with fail
                have HZ := Aid.hid (fun (w' : World) (hSw : Below w5.heap.size w5 w') => (⟨(hSw.cell (p := ⟨w.heap.size, 0, none⟩) lu).trans xu0, (hSw.cell (p := ⟨gz, 0, none⟩) lmore).trans xmore0⟩ : _ ∧ _))
                have hb : Below w5.heap.size w5 w5.drew := (Below.refl _ _).drew
                refine Ord.wp_region_walk (fun w' => Below w5.heap.size w5 w') 4 [(true, 0), (true, 2), (false, 1), (false, 3)] (by kernel_rfl) (by kernel_rfl) (fun _ _ d _ _ h => by cases d <;> exact h) (hb) ?_
                clear hb
                have hb : Below w5.heap.size w5 w5.drew := (Below.refl _ _).drew
                generalize w5.drew = wd5 at *
                iterate 2
                  apply Ord.walk_light
                  next => (simp only [la0, la1, la2]; rfl)
                  next => rfl
                  next => (intro w' hSw; obtain ⟨z0, z1⟩ := HZ.out w' hSw; clear hSw; go_simp; first | done | with_reducible rfl)
                  simp only [Act.put, la3, la4, la5]
                apply Ord.walk_heavy
                next => (simp only [la0, la1, la2]; rfl)
                next => rfl
                intro K hK
                go_wp2_with fail
                refine (runit_is u (some ⟨ub, uo, none⟩) B cap zs _ HZS.out HA2.out (HBO.out.below (((Kx5.out).trans (hb.mono (Kx5.out).size))) hB) (HU.out.below (((Kx5.out).trans (hb.mono (Kx5.out).size))) hB) (Nat.le_trans hB (((Kx5.out).trans (hb.mono (Kx5.out).size))).size)).mono ?_; rintro _ v5_1 ⟨A3, c3, rfl, hown3, hb'⟩; dsimp only
                refine hK.out _ _ (hb.trans (hb'.mono hb.size)) (fun hHeld => ?_)
                clear hb hb'
                have hb := hHeld
                clear hK K
                try simp only [Act.put, la3, la4, la5]
                apply Ord.walk_heavy
                next => (simp only [la0, la1, la2]; rfl)
                next => rfl
                intro K hK
                go_wp2_with fail
                refine (runit2_is (u ++ [d]) A2 w5.heap.size c2 (zs ++ [(6, (u.length : Int))]) _ HZM.out HAM.out (HBM.out.below hb (Nat.le_refl _)) (HVM.out.below hb (Nat.le_refl _)) hb.size _ (fun w0 hw0 => own_keeps hown3 hw0) (u.length + 1) (by simp)).mono ?_; rintro _ v5_2 ⟨A4, c4, rfl, hown4, hown5, hb'⟩; dsimp only
                refine hK.out _ _ (hb.trans (hb'.mono hb.size)) (fun hHeld => ?_)
                clear hb hb'
                have hb := hHeld
                clear hK K
                try simp only [Act.put, la3, la4, la5]
                refine Ord.walk_tail ?_; simp only [List.drop_succ_cons, List.drop_zero]
                have hbx := hb
                clear hb HZ
                have Kx6 := Aid.hid ((Kx5.out).trans (hbx.mono (Kx5.out).size))
                have Nu_6 := Aid.hid (Nu_5.out.below hbx Nu_5.out.lt)
                have Nnew2_6 := Aid.hid (Nnew2_5.out.below hbx Nnew2_5.out.lt)
                have Nm_6 := Aid.hid (Nm.out.below hbx Nm.out.lt)
                clear xu0 lu xmore0 lmore
                clear hbx
                have xu0 := Nu_6.out.cell 0 _ rfl
                have lu := Nu_6.out.lt
                have HR3 := Aid.hid (Wr.rows hown5); have HR4 := Aid.hid (Wr.rows hown4)
                clear hown3 hown4 hown5
                obtain ⟨b4, o4, rfl, hb4, hc4⟩ := Rows.pair HR4.out.1 (by simp)
                obtain ⟨p1, p2⟩ := hc4 zs.length (6, (u.length : Int)) (by simp)
                have lb4 : b4 < v5_2.heap.size := hb4
                have hlen4 : (zs ++ [(6, (u.length : Int))]).length = zs.length + 1 := by simp
                have hcz := HR4.out.2
                rw [hlen4] at hcz
                clear hc4 hb4
                rw [hlen4]
                have hcz2 : zs.length ≤ c4 := by omega
                have hwz : IntKind.i64.wrap ((zs.length : Int) + 1) = (zs.length : Int) + 1 := by simp [IntKind.wrap, IntKind.bits, IntKind.signed]; omega
                have hiz : (zs.length : Int) < (zs.length : Int) + 1 := by omega
                go_wp2_with fail
                have HZ := Aid.hid (fun (w' : World) (hSw : Below v5_2.heap.size v5_2 w') => (⟨(hSw.cell (p := ⟨w.heap.size, 0, none⟩) lu).trans xu0, (hSw.cell (p := ⟨b4, o4 + zs.length * 2, none⟩) lb4).trans p1, (hSw.cell (p := ⟨b4, o4 + zs.length * 2 + 1, none⟩) lb4).trans p2⟩ : _ ∧ _ ∧ _))
                have hb : Below v5_2.heap.size v5_2 v5_2.drew := (Below.refl _ _).drew
                refine Ord.wp_region_walk (fun w' => Below v5_2.heap.size v5_2 w') 29 [(true, 0), (true, 1), (true, 2), (true, 3), (true, 4), (true, 5), (true, 6), (true, 7), (true, 8), (true, 9), (true, 10), (true, 11), (false, 12), (true, 13), (true, 14), (true, 15), (true, 16), (true, 17), (true, 18), (true, 19), (true, 20), (true, 21), (true, 22), (true, 23), (true, 24), (true, 25), (true, 26), (false, 27), (true, 28)] (by kernel_rfl) (by kernel_rfl) (fun _ _ d _ _ h => by cases d <;> exact h) (hb) ?_
                clear hb
                have hb : Below v5_2.heap.size v5_2 v5_2.drew := (Below.refl _ _).drew
                generalize v5_2.drew = wd6 at *
                iterate 5
                  apply Ord.walk_light
                  next => (simp only [la0, la1, la2]; rfl)
                  next => rfl
                  next => (intro w' hSw; obtain ⟨z0, z1, z2⟩ := HZ.out w' hSw; clear hSw; go_simp; first | done | with_reducible rfl)
                  simp only [Act.put, la3, la4, la5]
                apply Ord.walk_light (v := .bool true)
                next => (simp only [la0, la1, la2]; rfl)
                next => rfl
                next => (intro w' hSw; obtain ⟨z0, z1, z2⟩ := HZ.out w' hSw; clear hSw; go_simp; (first | done | exact hwz.symm); first | done | with_reducible rfl)
                simp only [Act.put, la3, la4, la5]
                iterate 6
                  apply Ord.walk_light
                  next => (simp only [la0, la1, la2]; rfl)
                  next => rfl
                  next => (intro w' hSw; obtain ⟨z0, z1, z2⟩ := HZ.out w' hSw; clear hSw; go_simp; first | done | with_reducible rfl)
                  simp only [Act.put, la3, la4, la5]
                apply Ord.walk_heavy
                next => (simp only [la0, la1, la2]; rfl)
                next => rfl
                intro K hK
                go_wp2_with fail
                refine (sameW_b (some ⟨b4, o4, none⟩) A3 c4 c3 zs.length _ _ zs _ rfl (by have h := (HR4.out.1.take zs.length).below hb (Nat.le_refl _); rwa [List.take_left] at h) (HR3.out.1.below hb (Nat.le_refl _)) (by omega)).mono ?_; rintro _ v6_1 ⟨rfl, hb'⟩; dsimp only
                refine hK.out _ _ (hb.trans (hb'.mono hb.size)) (fun hHeld => ?_)
                clear hb hb'
                have hb := hHeld
                clear hK K
                try simp only [Act.put, la3, la4, la5]
                iterate 11
                  apply Ord.walk_light
                  next => (simp only [la0, la1, la2]; rfl)
                  next => rfl
                  next => (intro w' hSw; obtain ⟨z0, z1, z2⟩ := HZ.out w' hSw; clear hSw; go_simp; first | done | with_reducible rfl)
                  simp only [Act.put, la3, la4, la5]
                apply Ord.walk_light (v := .bool true)
                next => (simp only [la0, la1, la2]; rfl)
                next => rfl
                next => (intro w' hSw; obtain ⟨z0, z1, z2⟩ := HZ.out w' hSw; clear hSw; go_simp; first | done | with_reducible rfl)
                simp only [Act.put, la3, la4, la5]
                iterate 2
                  apply Ord.walk_light
                  next => (simp only [la0, la1, la2]; rfl)
                  next => rfl
                  next => (intro w' hSw; obtain ⟨z0, z1, z2⟩ := HZ.out w' hSw; clear hSw; go_simp; first | done | with_reducible rfl)
                  simp only [Act.put, la3, la4, la5]
                apply Ord.walk_heavy
                next => (simp only [la0, la1, la2]; rfl)
                next => rfl
                intro K hK
                go_wp2_with fail
                refine (rawake_is _).mono ?_; rintro _ v6_2 ⟨rfl, hb'⟩; dsimp only
                refine hK.out _ _ (hb.trans (hb'.mono hb.size)) (fun hHeld => ?_)
                clear hb hb'
                have hb := hHeld
                clear hK K
                try simp only [Act.put, la3, la4, la5]
                apply Ord.walk_light
                next => (simp only [la0, la1, la2]; rfl)
                next => rfl
                next => (intro w' hSw; obtain ⟨z0, z1, z2⟩ := HZ.out w' hSw; clear hSw; go_simp; first | done | with_reducible rfl)
                simp only [Act.put, la3, la4, la5]
                refine Ord.walk_tail ?_; simp only [List.drop_succ_cons, List.drop_zero]
                have hbx := hb
                clear hb HZ
                have Kx7 := Aid.hid ((Kx6.out).trans (hbx.mono (Kx6.out).size))
                have Nu_7 := Aid.hid (Nu_6.out.below hbx Nu_6.out.lt)
                have Nnew2_7 := Aid.hid (Nnew2_6.out.below hbx Nnew2_6.out.lt)
                have Nm_7 := Aid.hid (Nm_6.out.below hbx Nm_6.out.lt)
                clear xu0 lu p1 p2 lb4
                clear hbx
                go_wp2_with fail
                go_ret
                exact ⟨rfl, Kx7.out⟩
    · go_wp2_with fail
      refine (runit_is [] none 0 0 [] _ rfl (Ru.bare_all (u := []) (fun d hd => by cases hd) (by decide) (by decide)) (fun d hd => by cases hd) ⟨Rows.nil_ _ _ _ _, (fun d hd => by cases hd), by decide⟩ (Nat.zero_le _)).mono ?_; rintro _ w2 ⟨A1, c1, rfl, hown, hb2⟩
      have Kx2 := Aid.hid ((Kx1.out).trans (hb2.mono (Kx1.out).size))
      have Nu_2 := Aid.hid (Nu_1.out.below hb2 Nu_1.out.lt)
      clear xu0 lu
      clear hb2
      clear hown
      go_wp2_with fail
      refine (rawake_is _).mono ?_; rintro _ w3 ⟨rfl, hb3⟩
      have Kx3 := Aid.hid ((Kx2.out).trans (hb3.mono (Kx2.out).size))
      have Nu_3 := Aid.hid (Nu_2.out.below hb3 Nu_2.out.lt)
      clear hb3
      go_wp2_with fail
      go_ret
      exact ⟨rfl, Kx3.out⟩
end Go.Proofs.YtejifefgmlpclaaGreat
