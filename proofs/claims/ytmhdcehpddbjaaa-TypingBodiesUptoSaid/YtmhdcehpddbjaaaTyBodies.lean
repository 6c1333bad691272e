/- The document's cases, as a walk. -/
import Derived.Test.YtmhdcehpddbjaaaR7L
import Derived.Test.YtmhdcehpddbjaaaInts
import Derived.WalkKit
import Derived.WalkSpells
import Derived.WalkLawsBesides
import Derived.LoopTactic
import Derived.Deep.QuietTactic
import Derived.BigQuiet
import Derived.Below
import Derived.Laws.ResultCell
import Derived.Laws.Tables
import Derived.Laws.Rows
import Derived.Deep.Cut
import Derived.KernelRfl
import Derived.Test.YtmhdcehpddbjaaaTyO
import Derived.Test.YtmhdcehpddbjaaaGreatV
set_option linter.unusedSimpArgs false
set_option linter.unusedVariables false
namespace Go.Proofs.Ytmhdcehpddbjaaa
open Go.RowKit

/-- Labels, one behind the other: is one met already, or out of bounds? -/
def Rf.lab : List Int → List Int → Bool
 | _, [] => false
 | zs, n :: l => decide (n ∈ zs) || (decide (n < -32768) || decide (32767 < n)) || Rf.lab (zs ++ [n]) l
theorem Rf.lab_eq : ∀ (l zs : List Int), Rf.lab zs l = Ty.labels zs.reverse l
 | [], _ => by rw [Rf.lab, Ty.labels]
 | n :: l, zs => by rw [Rf.lab, Ty.labels, Rf.lab_eq l, List.reverse_append]; simp
theorem Rf.cases_code (p : Pl) (e : Ex) (ls : List Lb) (bl : List Int) : Ty.cases (Ty.expr p e) ls bl = if (Rf.expr p e).2 ≠ 0 then (Rf.expr p e).2 else if (Rf.expr p e).1.k ≠ 1 then 14 else if Rf.lab [] (ls.map (·.xs)).flatten = true then 6 else Ty.firstOf bl := by
 unfold Ty.cases Rf.expr
 rw [Rf.norm_code, Rf.lab_eq]
 unfold Ty.same
 by_cases h : (Ty.expr p e).2 = 0
 ·
  rw [Rf.norm_type h]
  by_cases h1 : (Ty.expr p e).1.k = 1 <;> simp [h, h1]
  all_goals (try rfl)
 ·
  simp [h]
set_option maxRecDepth 100000 in
set_option maxHeartbeats 20000000 in
theorem rcases_is (f : Nat) (u : List Dk) (a : Option Addr) (B cap : Nat) (x y : Int) (p : Pl) (s : St) (e : Ex) (lo : Bool) (r : Int) (w : World) (hr : Ty.cases (Ty.hd (s.es.map (Ty.expr p))) s.ls (s.bs.map fun b => Ty.stmts p lo b.l) = r) (hes : s.es = [e]) (hX : ∀ q ∈ s.es, RExOK f u a B cap x y p q) (hS : ∀ b ∈ s.bs, RStsOK f u a B cap x y p b.l) (hu : UnitAt w B a u) (hB : B ≤ w.heap.size) (he : ExsAt (f + 1) w B s.eA s.es)
  (hlb : Rows w B 1 s.lA (s.ls.map Lb.cells)) (hlx : ∀ x ∈ s.ls, x.xs.length ≤ 9223372036854775807 ∧ Rows w B 1 x.A (x.xs.map fun n => [Value.int .i64 n])) (hbs : Rows w B 1 s.bA (s.bs.map Bk.cells) ∧ ∀ b ∈ s.bs, StsAt f w B b.A b.l) (hlim : StLim s) :
  Calls Try.prog 91 #[.agg #[.slice a u.length cap], .agg #[.int .i64 x, .int .i64 y], .agg #[.int .i64 s.k, .int .i64 s.n, .string s.name, .slice s.eA s.es.length s.ec, .slice s.lA s.ls.length s.lc, .slice s.bA s.bs.length s.bc], .bool lo] w fun z w' => z = .returned (.int .i64 r) ∧ Below w.heap.size w w' := by
 obtain ⟨i0, hi, hz0, hz1, hz2⟩ := info_parts info_int
 have HU := Aid.hid hu; have HX := Aid.hid hX; have HE := Aid.hid he; have HLB := Aid.hid hlb; have HLX := Aid.hid hlx; have HBS := Aid.hid hbs; have HS := Aid.hid hS; have LIM := Aid.hid hlim; have HES := Aid.hid hes
 obtain ⟨⟨t1, d1⟩, h1⟩ : ∃ r, Rf.expr p e = r := ⟨_, rfl⟩
 have HE1 := Aid.hid h1
 obtain ⟨q, hq⟩ : ∃ q, Rf.lab [] (s.ls.map (·.xs)).flatten = q := ⟨_, rfl⟩
 have HQ := Aid.hid hq
 have HR : Hid ((if d1 ≠ 0 then d1 else if t1.k ≠ 1 then 14 else if q = true then 6 else Ty.firstOf (s.bs.map fun b => Ty.stmts p lo b.l)) = r) := Aid.hid (by rw [← hr, hes, List.map_cons, List.map_nil, Ty.hd, List.headD_cons, Rf.cases_code, h1, hq])
 have HX1 := Aid.hid (HX.out e (by rw [hes]; simp))
 have hl1 : s.es.length = 1 := by rw [hes]; rfl
 have HL1 := Aid.hid hl1
 clear hl1
 have lls := LIM.out.l
 have lbs := LIM.out.b
 obtain ⟨W, hW, Nu, Np, Ns, K0⟩ := newh3 w [.slice a u.length cap] [.int .i64 x, .int .i64 y] [.int .i64 s.k, .int .i64 s.n, .string s.name, .slice s.eA s.es.length s.ec, .slice s.lA s.ls.length s.lc, .slice s.bA s.bs.length s.bc] 24 26 58
 clear hu hX he hlb hlx hbs hS hlim hes h1 hq hr
 obtain ⟨xu0, lu⟩ := xc1 Nu
 obtain ⟨xp0, xp1, lp⟩ := xc2 Np
 have xs3 := Ns.out.cell 3 _ rfl
 have ls := Ns.out.lt
 go_enter Try.func91, Try.ntmps91
 try simp only [List.append_eq, List.cons_append, List.nil_append]
 obtain ⟨eb, off, hA, hebB, hc, hs⟩ := Ex.at1 (HE.out.below K0.out hB) (i := 0) (e := e) (by rw [HES.out]; rfl)
 have c0 := hc 0 _ rfl
 have c1 := hc 1 _ rfl
 have c2 := hc 2 _ rfl
 have c3 := hc 3 _ rfl
 have c4 := hc 4 _ rfl
 simp only [Nat.add_zero, Nat.zero_mul] at c0 c1 c2 c3 c4
 have leb : eb < W.heap.size := Nat.lt_of_lt_of_le hebB (Nat.le_trans hB (K0.out).size)
 have HSS := Aid.hid hs
 have HA := Aid.hid hA
 rw [hA, HL1.out] at xs3
 have hi01 : 0 < 1 := by decide
 clear hc hs hA
 go_wp2_with fail
 (try clear hW)
 refine wp_cut (fun a0 e a' w' => e = .normal ∧ Aid.Kept (∃ (g : Nat) (v19 v20 v21 v22 v23 v24 v25 v18 v26 v27 : Value), a' = putL a0 [(19, v19), (20, v20), (21, v21), (22, v22), (23, v23), (24, v24), (25, v25), (18, v18), (26, v26), (27, v27), (9, .pointer (some ⟨g, 0, none⟩)), (10, .int .i64 d1)] ∧ Aid.Has w' g [.int .i64 t1.k, .int .i64 t1.lo, .int .i64 t1.hi, .string t1.name] 36 ∧ W.heap.size ≤ g ∧ Below W.heap.size W w')) ?_ ?_
 ·
  have HZ := Aid.hid (fun (w' : World) (hSw : Below W.heap.size W w') => (⟨kc hSw xu0 lu, kc hSw xp0 lp, kc hSw xp1 lp, kc hSw xs3 ls, kc hSw c0 leb, kc hSw c1 leb, kc hSw c2 leb, kc hSw c3 leb, kc hSw c4 leb⟩ : _ ∧ _ ∧ _ ∧ _ ∧ _ ∧ _ ∧ _ ∧ _ ∧ _))
  have hb : Below W.heap.size W W.drew := (Below.refl _ _).drew
  refine Ord.wp_region_go (fun w' => Below W.heap.size W w') 12 [0, 1, 2, 3, 4, 5, 7, 8, 9] (by kernel_rfl) (by kernel_rfl) (fun _ _ _ _ _ h => by cases h.1) (hb) ?_
  clear hb
  have hb : Below W.heap.size W W.drew := (Below.refl _ _).drew
  generalize W.drew = wd0 at *
  apply Ord.go_light (i := 0) (by kernel_rfl)
  next => (simp only [la0, la1, la2]; rfl)
  next => rfl
  next => (intro w' hSw; have z := HZ.out w' hSw; clear hSw; go_simp; first | done | with_reducible rfl)
  simp only [Act.put, la3, la4, la5]
  apply Ord.go_light (i := 1) (by kernel_rfl)
  next => (simp only [la0, la1, la2]; rfl)
  next => rfl
  next => (intro w' hSw; have z := HZ.out w' hSw; clear hSw; go_simp; first | done | with_reducible rfl)
  simp only [Act.put, la3, la4, la5]
  apply Ord.go_light (i := 2) (by kernel_rfl)
  next => (simp only [la0, la1, la2]; rfl)
  next => rfl
  next => (intro w' hSw; have z := HZ.out w' hSw; clear hSw; go_simp; first | done | with_reducible rfl)
  simp only [Act.put, la3, la4, la5]
  apply Ord.go_light (i := 3) (by kernel_rfl)
  next => (simp only [la0, la1, la2]; rfl)
  next => rfl
  next => (intro w' hSw; have z := HZ.out w' hSw; clear hSw; go_simp; first | done | with_reducible rfl)
  simp only [Act.put, la3, la4, la5]
  apply Ord.go_light (i := 4) (by kernel_rfl)
  next => (simp only [la0, la1, la2]; rfl)
  next => rfl
  next => (intro w' hSw; have z := HZ.out w' hSw; clear hSw; go_simp; first | done | with_reducible rfl)
  simp only [Act.put, la3, la4, la5]
  apply Ord.go_light (i := 5) (by kernel_rfl)
  next => (simp only [la0, la1, la2]; rfl)
  next => rfl
  next => (intro w' hSw; have z := HZ.out w' hSw; clear hSw; go_simp; first | done | with_reducible rfl)
  simp only [Act.put, la3, la4, la5]
  refine Ord.go_two (i := 6) (j := 10) (by kernel_rfl) (by kernel_rfl) ?_ ?_
  ·
   apply Ord.go_done1
   next => (simp only [la0, la1, la2]; rfl)
   next => rfl
   intro K hK
   go_wp2_with fail
   refine (HX1.out _ t1 d1 HE1.out (HU.out.below (((K0.out).trans (hb.mono (K0.out).size))) hB) (Nat.le_trans hB (((K0.out).trans (hb.mono (K0.out).size))).size) (HSS.out.below (hb.mono (Nat.le_trans hB (K0.out).size)) (Nat.le_refl _))).mono ?_; rintro _ vc ⟨rfl, hb'⟩; dsimp only
   refine hK.out _ _ (hb.trans (hb'.mono hb.size)) (fun hHeld => ?_)
   clear hb hb'
   have hb := hHeld
   clear hK K
   try simp only [Act.put, la3, la4, la5]
   apply Ord.go_light (i := 7) (by kernel_rfl)
   next => (simp only [la0, la1, la2]; rfl)
   next => rfl
   next => (intro w' hSw; have z := HZ.out w' hSw; clear hSw; go_simp; first | done | with_reducible rfl)
   simp only [Act.put, la3, la4, la5]
   apply Ord.go_light (i := 8) (by kernel_rfl)
   next => (simp only [la0, la1, la2]; rfl)
   next => rfl
   next => (intro w' hSw; have z := HZ.out w' hSw; clear hSw; go_simp; first | done | with_reducible rfl)
   simp only [Act.put, la3, la4, la5]
   apply Ord.go_light (i := 9) (by kernel_rfl)
   next => (simp only [la0, la1, la2]; rfl)
   next => rfl
   next => (intro w' hSw; have z := HZ.out w' hSw; clear hSw; go_simp; first | done | with_reducible rfl)
   simp only [Act.put, la3, la4, la5]
   refine Ord.go_one (i := 10) (by kernel_rfl) (by kernel_rfl) ?_
   apply Ord.go_done1
   next => (simp only [la0, la1, la2]; rfl)
   next => rfl
   intro K hK
   go_wp2_with fail
   have hg := Aid.Has.new vc [.int .i64 0, .int .i64 0, .int .i64 0, .string ⟨#[]⟩] 36
   have hgs := hb.size
   refine hK.out _ _ (hb.alloc hb.size _) (fun hHeld => ?_)
   clear hb
   have hb := hHeld
   generalize hX : vc.alloc _ = wx at *
   clear hX
   clear hK K
   try simp only [Act.put, la3, la4, la5]
   refine Ord.go_one (i := 11) (by kernel_rfl) (by kernel_rfl) ?_
   apply Ord.go_done1
   next => (simp only [la0, la1, la2]; rfl)
   next => rfl
   intro K hK
   refine wp_store_row 36 _ _ rfl (vc.heap.size) _ rfl rfl 36 _ hg (by kernel_rfl) rfl (by simp [Value.oneCell']) ?_
   refine hK.out _ _ (row_below hb hgs _) (fun hHeld => ?_)
   have hg := row_has (ys := [.int .i64 t1.k, .int .i64 t1.lo, .int .i64 t1.hi, .string t1.name]) hg
   clear hb
   have hb := hHeld
   generalize hX : World.setRow _ _ _ = ws at *
   clear hX
   clear hK K
   refine Ord.go_tail ?_; simp only [List.drop_succ_cons, List.drop_zero]
   go_wp2_with fail
   (try refine ⟨rfl, ?_⟩)
   unfold Aid.Kept
   refine ⟨vc.heap.size, ?_⟩
   all_goals (repeat' apply And.intro)
   all_goals first | exact hg | exact hgs | exact hb | (simp only [putL, Act.put, la3, la4, la5]; exact ⟨_, _, _, _, _, _, _, _, _, _, rfl⟩)
  ·
   apply Ord.go_done1
   next => (simp only [la0, la1, la2]; rfl)
   next => rfl
   intro K hK
   go_wp2_with fail
   have hg := Aid.Has.new wd0 [.int .i64 0, .int .i64 0, .int .i64 0, .string ⟨#[]⟩] 36
   have hgs := hb.size
   refine hK.out _ _ (hb.alloc hb.size _) (fun hHeld => ?_)
   clear hb
   have hb := hHeld
   generalize hX : wd0.alloc _ = wx at *
   clear hX
   clear hK K
   try simp only [Act.put, la3, la4, la5]
   refine Ord.go_one (i := 6) (by kernel_rfl) (by kernel_rfl) ?_
   apply Ord.go_done1
   next => (simp only [la0, la1, la2]; rfl)
   next => rfl
   intro K hK
   go_wp2_with fail
   refine (HX1.out _ t1 d1 HE1.out (HU.out.below (((K0.out).trans (hb.mono (K0.out).size))) hB) (Nat.le_trans hB (((K0.out).trans (hb.mono (K0.out).size))).size) (HSS.out.below (hb.mono (Nat.le_trans hB (K0.out).size)) (Nat.le_refl _))).mono ?_; rintro _ vc ⟨rfl, hb'⟩; dsimp only
   refine hK.out _ _ (hb.trans (hb'.mono hb.size)) (fun hHeld => ?_)
   have hg := hg.below hb' hg.lt
   clear hb hb'
   have hb := hHeld
   clear hK K
   try simp only [Act.put, la3, la4, la5]
   apply Ord.go_light (i := 7) (by kernel_rfl)
   next => (simp only [la0, la1, la2]; rfl)
   next => rfl
   next => (intro w' hSw; have z := HZ.out w' hSw; clear hSw; go_simp; first | done | with_reducible rfl)
   simp only [Act.put, la3, la4, la5]
   apply Ord.go_light (i := 8) (by kernel_rfl)
   next => (simp only [la0, la1, la2]; rfl)
   next => rfl
   next => (intro w' hSw; have z := HZ.out w' hSw; clear hSw; go_simp; first | done | with_reducible rfl)
   simp only [Act.put, la3, la4, la5]
   apply Ord.go_light (i := 9) (by kernel_rfl)
   next => (simp only [la0, la1, la2]; rfl)
   next => rfl
   next => (intro w' hSw; have z := HZ.out w' hSw; clear hSw; go_simp; first | done | with_reducible rfl)
   simp only [Act.put, la3, la4, la5]
   refine Ord.go_one (i := 11) (by kernel_rfl) (by kernel_rfl) ?_
   apply Ord.go_done1
   next => (simp only [la0, la1, la2]; rfl)
   next => rfl
   intro K hK
   refine wp_store_row 36 _ _ rfl (wd0.heap.size) _ rfl rfl 36 _ hg (by kernel_rfl) rfl (by simp [Value.oneCell']) ?_
   refine hK.out _ _ (row_below hb hgs _) (fun hHeld => ?_)
   have hg := row_has (ys := [.int .i64 t1.k, .int .i64 t1.lo, .int .i64 t1.hi, .string t1.name]) hg
   clear hb
   have hb := hHeld
   generalize hX : World.setRow _ _ _ = ws at *
   clear hX
   clear hK K
   refine Ord.go_tail ?_; simp only [List.drop_succ_cons, List.drop_zero]
   go_wp2_with fail
   (try refine ⟨rfl, ?_⟩)
   unfold Aid.Kept
   refine ⟨wd0.heap.size, ?_⟩
   all_goals (repeat' apply And.intro)
   all_goals first | exact hg | exact hgs | exact hb | (simp only [putL, Act.put, la3, la4, la5]; exact ⟨_, _, _, _, _, _, _, _, _, _, rfl⟩)
 rintro e' a' w1 ⟨rfl, g1, v19, v20, v21, v22, v23, v24, v25, v18, v26, v27, rfl, hg1, hgl1, hb1⟩
 simp only [putL, Act.put, la3, la4, la5]
 have Nnew1 := Aid.hid hg1
 clear hg1
 have hbq1 := hb1
 have Kx1 := kb K0 hb1
 have Nu_1 := nb hb1 Nu
 have Np_1 := nb hb1 Np
 have Ns_1 := nb hb1 Ns
 clear xu0 lu xp0 xp1 lp xs3 ls c0 c1 c2 c3 c4 leb
 clear hb1
 obtain ⟨xnew10, lnew1⟩ := xc1 Nnew1
 by_cases hd : d1 = 0
 ·
  subst hd
  by_cases hk1 : t1.k = 1
  ·
   have f1 : (t1.k != 1) = false := by simp [hk1]
   have HR2 : Hid ((if q = true then 6 else Ty.firstOf (s.bs.map fun b => Ty.stmts p lo b.l)) = r) := Aid.hid (by have h := HR.out; simpa [hk1] using h)
   clear hk1
   go_wp2_with fail
   clear xnew10 lnew1
   have KW := Aid.hid (Kx1.out)
   go_loopw [11, 12] (fun vm vi wr => ∃ (i : Nat) (A' : Option Addr) (c' : Nat) (zs : List Int), vi = .int .i64 i ∧ vm = .slice A' zs.length c' ∧ i ≤ s.ls.length ∧ Hid (zs.length + (((s.ls.drop i).map (·.xs)).flatten).length ≤ 1000000000) ∧ Hid (Rf.lab zs ((s.ls.drop i).map (·.xs)).flatten = q) ∧ Hid (wr.ownsRow w1.heap.size 3 1 (.slice A' zs.length c') zs.length (zs.map (Value.int .i64))) ∧ Hid (Below w1.heap.size w1 wr)) (fun _ vi _ => s.ls.length - (intOf vi).toNat)
   case atStart => exact ⟨0, none, 0, [], rfl, rfl, Nat.zero_le _, Aid.hid (by simpa using LIM.out.x), Aid.hid (by simpa using HQ.out), Aid.hid (World.ownsRow_nil _ _ _ _), Aid.hid (Below.refl _ _)⟩
   case round =>
    obtain ⟨i, A1, c1', zs, rfl, rfl, hik, HN, HL, HO, HB⟩ := hrel
    have Ka := Aid.hid (KW.out.trans (HB.out.mono KW.out.size))
    have Mu_a := Aid.hid (Nu_1.out.below HB.out Nu_1.out.lt)
    have Mp_a := Aid.hid (Np_1.out.below HB.out Np_1.out.lt)
    have Ms_a := Aid.hid (Ns_1.out.below HB.out Ns_1.out.lt)
    by_cases hil : i < s.ls.length
    ·
     obtain ⟨x1, hx⟩ : ∃ x1, s.ls[i]? = some x1 := ⟨_, List.getElem?_eq_getElem hil⟩
     obtain ⟨rest, hrest⟩ : ∃ l, (((s.ls.drop (i + 1)).map (·.xs)).flatten : List Int) = l := ⟨_, rfl⟩
     have e1 : (((s.ls.drop i).map (·.xs)).flatten : List Int) = x1.xs ++ rest := by rw [← hrest, tdrop_at hx]; simp
     have HLX1 := Aid.hid (HLX.out x1 (List.mem_of_getElem? hx))
     have HLc := Aid.hid (show ∃ lb lo', s.lA = some ⟨lb, lo', none⟩ ∧ lb < B ∧ w.cell? ⟨lb, lo' + i, none⟩ = some (.slice x1.A x1.xs.length x1.c) by
      obtain ⟨lb, lo', h1, h2, h3⟩ := HLB.out (by simp; omega)
      have h4 := h3 i x1.cells (by simp [hx]) 0 _ rfl
      simp only [Nat.mul_one, Nat.add_zero] at h4
      exact ⟨lb, lo', h1, h2, h4⟩)
     have HN2 := Aid.hid (show zs.length + (x1.xs ++ rest).length ≤ 1000000000 by rw [← e1]; exact HN.out)
     have HL2 := Aid.hid (show Rf.lab zs (x1.xs ++ rest) = q by rw [← e1]; exact HL.out)
     have HRS := Aid.hid hrest
     have lxs : x1.xs.length ≤ 1000000000 := by have := HN2.out; simp at this; omega
     clear HN HL hx e1 hrest
     obtain ⟨lb, lo', hLA, hlbB, hlc⟩ := HLc.out
     have HLA := Aid.hid hLA; have HLCC := Aid.hid hlc
     clear hLA hlc HLc
     have xs4 := Ms_a.out.cell 4 _ rfl
     have ls := Ms_a.out.lt
     rw [HLA.out] at xs4
     go_wp2_with fail
     clear xs4 ls
     go_loopw [11, 13] (fun vm vi wr => ∃ (k : Nat) (A' : Option Addr) (c' : Nat) (ys : List Int), vi = .int .i64 k ∧ vm = .slice A' ys.length c' ∧ k ≤ x1.xs.length ∧ Hid (ys.length + (x1.xs.drop k ++ rest).length ≤ 1000000000) ∧ Hid (Rf.lab ys (x1.xs.drop k ++ rest) = q) ∧ Hid (wr.ownsRow w1.heap.size 3 1 (.slice A' ys.length c') ys.length (ys.map (Value.int .i64))) ∧ Hid (Below w1.heap.size w1 wr)) (fun _ vi _ => x1.xs.length - (intOf vi).toNat)
     case atStart => exact ⟨0, A1, c1', zs, rfl, rfl, Nat.zero_le _, Aid.hid (by simpa using HN2.out), Aid.hid (by simpa using HL2.out), HO, HB⟩
     case round =>
      obtain ⟨k, A2, c2', ys, rfl, rfl, hkk, HNk, HLk, HOk, HBk⟩ := hrel
      have Kb := Aid.hid (KW.out.trans (HBk.out.mono KW.out.size))
      have Mu_b := Aid.hid (Nu_1.out.below HBk.out Nu_1.out.lt)
      have Mp_b := Aid.hid (Np_1.out.below HBk.out Np_1.out.lt)
      have Ms_b := Aid.hid (Ns_1.out.below HBk.out Ns_1.out.lt)
      have cL := (Kb.out.cell (p := ⟨lb, lo' + i, none⟩) (Nat.lt_of_lt_of_le hlbB hB)).trans HLCC.out
      have hii : (i : Int) < (s.ls.length : Int) := by omega
      have xs4 := Ms_b.out.cell 4 _ rfl
      have ls := Ms_b.out.lt
      rw [HLA.out] at xs4
      by_cases hkl : k < x1.xs.length
      ·
       obtain ⟨nn, hnn⟩ : ∃ nn, x1.xs[k]? = some nn := ⟨_, List.getElem?_eq_getElem hkl⟩
       obtain ⟨xb, xo, hXA, hxbB, hxc⟩ := HLX1.out.2 (by simp; omega)
       have cX0 := hxc k [.int .i64 nn] (by simp [hnn]) 0 _ rfl
       simp only [Nat.mul_one, Nat.add_zero] at cX0
       have cX := (Kb.out.cell (p := ⟨xb, xo + k, none⟩) (Nat.lt_of_lt_of_le hxbB hB)).trans cX0
       have e2 : x1.xs.drop k ++ rest = nn :: (x1.xs.drop (k + 1) ++ rest) := by rw [List.drop_eq_getElem_cons hkl, List.cons_append]; congr 1; exact (List.getElem?_eq_some_iff.1 hnn).2
       have HNk2 := Aid.hid (show ys.length + (nn :: (x1.xs.drop (k + 1) ++ rest)).length ≤ 1000000000 by rw [← e2]; exact HNk.out)
       have HLk2 := Aid.hid (show (decide (nn ∈ ys) || (decide (nn < -32768) || decide (32767 < nn)) || Rf.lab (ys ++ [nn]) (x1.xs.drop (k + 1) ++ rest)) = q by have h := HLk.out; rw [e2, Rf.lab] at h; exact h)
       rw [hXA] at cL
       have hkki : (k : Int) < (x1.xs.length : Int) := by omega
       have hyl0 : ys.length ≤ 1000000000 := by have := HNk2.out; simp at this; omega
       clear hnn hxc cX0 e2 HNk HLk
       go_wp2_with fail
       clear xs4 ls cL cX
       have HI2 := Aid.hid (IntsAt.of_own HOk.out)
       go_loopw [15] (fun vj w2 => ∃ j : Nat, vj = .int .i64 j ∧ j ≤ ys.length ∧ Hid (nn ∉ ys.take j) ∧ w2 = wr) (fun vj _ => ys.length - (intOf vj).toNat)
       case atStart => exact ⟨0, rfl, Nat.zero_le _, Aid.hid (by simp), rfl⟩
       case round =>
        obtain ⟨j, rfl, hjk, HNO, rfl⟩ := hrel
        by_cases hjl : j < ys.length
        ·
         obtain ⟨ad, hAD, _, hcc⟩ := HI2.out.at_ hjl
         obtain ⟨zz, hzz⟩ : ∃ zz, ys[j]? = some zz := ⟨_, List.getElem?_eq_getElem hjl⟩
         have cz := hcc j zz hzz
         subst hAD
         have HZZ := Aid.hid hzz
         have hjj : (j : Int) < (ys.length : Int) := by omega
         clear hcc hzz
         by_cases heq : zz = nn
         ·
          obtain rfl : true = q := by
           have h := HLk2.out
           rw [decide_eq_true (heq ▸ List.mem_of_getElem? HZZ.out : nn ∈ ys)] at h
           simpa using h
          obtain rfl : 6 = r := by have h := HR2.out; simpa using h
          have g0 : (zz == nn) = true := by simp [heq]
          clear heq
          go_wp2_with fail
          go_ret
          exact ⟨rfl, Kb.out⟩
         ·
          have g0 : (zz == nn) = false := by simpa using heq
          have NX : Hid (nn ∉ ys.take (j + 1)) := Aid.hid (by
           rw [List.take_add_one, HZZ.out]
           intro hm
           rcases List.mem_append.1 hm with h | h
           ·
            exact HNO.out h
           ·
            have h2 : nn = zz := by simpa using h
            exact heq h2.symm)
          clear heq
          go_wp2_with fail
          go_roundw
          case rel => exact ⟨j + 1, by go_num, by omega, NX, by trivial⟩
          case measure => simp [intOf]; omega
        ·
         have HNM : Hid (nn ∉ ys) := Aid.hid (by have h := HNO.out; rwa [List.take_of_length_le (by omega)] at h)
         have HLk3 := Aid.hid (show (decide (nn < -32768) || decide (32767 < nn) || Rf.lab (ys ++ [nn]) (x1.xs.drop (k + 1) ++ rest)) = q by have h := HLk2.out; rw [decide_eq_false HNM.out, Bool.false_or] at h; exact h)
         by_cases hlo : nn < -32768
         ·
          obtain rfl : true = q := by have h := HLk3.out; simpa [hlo] using h
          obtain rfl : 6 = r := by have h := HR2.out; simpa using h
          go_wp2_with fail
          go_ret
          exact ⟨rfl, Kb.out⟩
         ·
          by_cases hhi : 32767 < nn
          ·
           obtain rfl : true = q := by have h := HLk3.out; simpa [hhi] using h
           obtain rfl : 6 = r := by have h := HR2.out; simpa using h
           go_wp2_with fail
           go_ret
           exact ⟨rfl, Kb.out⟩
          ·
           have HLk4 := Aid.hid (show Rf.lab (ys ++ [nn]) (x1.xs.drop (k + 1) ++ rest) = q by have h := HLk3.out; simpa [hlo, hhi] using h)
           have hnew := Aid.Has.new wr [.int .i64 nn] 3
           have k3 := below_new wr (.cells #[.int .i64 nn] 3)
           have ho3 := own_keeps HOk.out k3
           have hr3 : Reads (wr.alloc (.cells #[.int .i64 nn] 3)) (wr.alloc (.cells #[.int .i64 nn] 3)).heap.size 1 (some ⟨wr.heap.size, 0, none⟩) 1 [.int .i64 nn] := ⟨by simp, fun _ => ⟨⟨wr.heap.size, 0, none⟩, rfl, by simp [World.size_alloc], fun j u hj => by
            rw [Go.WideShapes.add_plain, Nat.zero_add]; exact hnew.cell j u hj⟩⟩
           have hbs3 : w1.heap.size ≤ (wr.alloc (.cells #[.int .i64 nn] 3)).heap.size := Nat.le_trans HBk.out.size k3.size
           have K3b := Aid.hid k3
           have hyl : ys.length + 1 ≤ 1000000000 := by have := HNk2.out; simp at this; omega
           clear k3 hnew
           go_wp2_with (at_builtin; refine wpList_append_any _ rfl _ _ 92 rfl w1.heap.size 3 i0 (.int .i64 0) 1 8 Try.underlying92 hi hz0 hz1 hz2 rfl (by decide) _ _ _ rfl ho3 _ (some ⟨wr.heap.size, 0, none⟩) 1 1 [.int .i64 nn] rfl hr3 ?d1 ?d2 ?d3 hbs3 ?_)
           case d1 => first | rfl | (intro u hu; simp at hu; subst hu; rfl)
           case d2 => unfold maxLen; omega
           case d3 => omega
           intro v9 w9 ho9 hg9 hob
           obtain ⟨A9, c9, rfl⟩ := own_slice ho9
           have HB9 := Aid.hid ((HBk.out.trans (K3b.out.mono HBk.out.size)).grown hg9 hbs3 (fun q hq => (ho3.lt q hq).1))
           have e3 : ys.length + 1 = (ys ++ [nn]).length := by simp
           have e4 : ys.map (Value.int .i64) ++ [.int .i64 nn] = (ys ++ [nn]).map (Value.int .i64) := by simp
           rw [e4, e3] at ho9
           have HO9 := Aid.hid ho9
           have E3 := Aid.hid e3
           clear ho9 hg9 hob hr3 hbs3 ho3 e3 e4
           go_wp2_with fail
           go_roundw
           case rel => exact ⟨k + 1, A9, c9, ys ++ [nn], by go_num, by rw [E3.out], by omega, Aid.hid (by have := HNk2.out; simp at this ⊢; omega), HLk4, HO9, HB9⟩
           case measure => simp [intOf]; omega
      ·
       have hek : k = x1.xs.length := by omega
       have e5 : x1.xs.drop k ++ rest = ((s.ls.drop (i + 1)).map (·.xs)).flatten := by rw [List.drop_eq_nil_of_le (by omega), List.nil_append, HRS.out]
       have HN5 := Aid.hid (show ys.length + (((s.ls.drop (i + 1)).map (·.xs)).flatten).length ≤ 1000000000 by rw [← e5]; exact HNk.out)
       have HL5 := Aid.hid (show Rf.lab ys ((s.ls.drop (i + 1)).map (·.xs)).flatten = q by rw [← e5]; exact HLk.out)
       clear e5 hek
       go_wp2_with fail
       go_roundw
       case rel => exact ⟨i + 1, A2, c2', ys, by go_num, rfl, by omega, HN5, HL5, HOk, HBk⟩
       case measure => simp [intOf]; omega
    ·
     obtain rfl : false = q := by have h := HL.out; rw [List.drop_eq_nil_of_le (by omega)] at h; simpa [Rf.lab] using h
     have HR3 : Hid (Ty.firstOf (s.bs.map fun b => Ty.stmts p lo b.l) = r) := Aid.hid (by have h := HR2.out; simpa using h)
     have xs4 := Ms_a.out.cell 4 _ rfl
     have ls := Ms_a.out.lt
     go_wp2_with fail
     clear xs4 ls
     have KW2 := Aid.hid (Ka.out)
     obtain ⟨W2, hW2⟩ : ∃ W2, W2 = wr := ⟨_, rfl⟩
     rw [← hW2]
     rw [← hW2] at KW2 Mu_a Mp_a Ms_a
     clear hW2
     go_loopw [16] (fun vi wr => ∃ k : Nat, vi = .int .i64 k ∧ k ≤ s.bs.length ∧ Hid (Ty.firstOf ((s.bs.drop k).map fun b => Ty.stmts p lo b.l) = r) ∧ Hid (Below W2.heap.size W2 wr)) (fun vi _ => s.bs.length - (intOf vi).toNat)
     case atStart => exact ⟨0, rfl, Nat.zero_le _, Aid.hid (by simpa using HR3.out), Aid.hid (Below.refl _ _)⟩
     case round =>
      obtain ⟨k, rfl, hkk, HF, HBB⟩ := hrel
      have KW := KW2
      have Kd := Aid.hid (KW.out.trans (HBB.out.mono KW.out.size))
      have Mu_d := Aid.hid (Mu_a.out.below HBB.out Mu_a.out.lt)
      have Mp_d := Aid.hid (Mp_a.out.below HBB.out Mp_a.out.lt)
      have Ms_d := Aid.hid (Ms_a.out.below HBB.out Ms_a.out.lt)
      have xs5 := Ms_d.out.cell 5 _ rfl
      have ls := Ms_d.out.lt
      obtain ⟨xu0, lu⟩ := xc1 Mu_d
      obtain ⟨xp0, xp1, lp⟩ := xc2 Mp_d
      by_cases hkl : k < s.bs.length
      ·
       obtain ⟨bk, hbk⟩ : ∃ bk, s.bs[k]? = some bk := ⟨_, List.getElem?_eq_getElem hkl⟩
       obtain ⟨bb, bo, hbA, hbb, hbc⟩ := (HBS.out.1.below Kd.out hB) (by simp; omega)
       have cb := hbc k bk.cells (by simp [hbk]) 0 _ rfl
       simp only [Nat.add_zero, Nat.mul_one] at cb
       have lbb : bb < wr.heap.size := Nat.lt_of_lt_of_le hbb (Nat.le_trans hB Kd.out.size)
       have HSB1 := Aid.hid (HBS.out.2 bk (List.mem_of_getElem? hbk))
       have HSK := Aid.hid (HS.out bk (List.mem_of_getElem? hbk))
       rw [hbA] at xs5
       have hkb : (k : Int) < (s.bs.length : Int) := by omega
       obtain ⟨cc, hcc⟩ : ∃ q, Ty.stmts p lo bk.l = q := ⟨_, rfl⟩
       have HCC := Aid.hid hcc
       have HF2 := Aid.hid (show (if cc ≠ 0 then cc else Ty.firstOf ((s.bs.drop (k + 1)).map fun b => Ty.stmts p lo b.l)) = r by have h := HF.out; rw [tdrop_at hbk, List.map_cons, hcc, Ty.firstOf] at h; exact h)
       clear hbk hbc hbA hcc
       go_wp2_with fail
       have HZ := Aid.hid (fun (w' : World) (hSw : Below wr.heap.size wr w') => (⟨kc hSw xs5 ls, kc hSw xu0 lu, kc hSw xp0 lp, kc hSw xp1 lp, kc hSw cb lbb⟩ : _ ∧ _ ∧ _ ∧ _ ∧ _))
       have hb : Below wr.heap.size wr wr.drew := (Below.refl _ _).drew
       refine Ord.wp_region_walk (fun w' => Below wr.heap.size wr w') 9 [(true, 0), (true, 1), (true, 2), (true, 3), (true, 4), (true, 5), (true, 6), (true, 7), (false, 8)] (by kernel_rfl) (by kernel_rfl) (fun _ _ d _ _ h => by cases d <;> exact h) (hb) ?_
       clear hb
       have hb : Below wr.heap.size wr wr.drew := (Below.refl _ _).drew
       generalize wr.drew = wd1 at *
       iterate 8
        apply Ord.walk_light
        next => (simp only [la0, la1, la2]; rfl)
        next => rfl
        next => (intro w' hSw; have z := HZ.out w' hSw; clear hSw; go_simp; first | done | with_reducible rfl)
        simp only [Act.put, la3, la4, la5]
       apply Ord.walk_heavy
       next => (simp only [la0, la1, la2]; rfl)
       next => rfl
       intro K hK
       go_wp2_with fail
       refine (HSK.out _ bk.A bk.c lo cc HCC.out (HU.out.below (((Kd.out).trans (hb.mono (Kd.out).size))) hB) (Nat.le_trans hB (((Kd.out).trans (hb.mono (Kd.out).size))).size) (HSB1.out.below (((Kd.out).trans (hb.mono (Kd.out).size))) hB)).mono ?_; rintro _ v1_1 ⟨rfl, hb'⟩; dsimp only
       refine hK.out _ _ (hb.trans (hb'.mono hb.size)) (fun hHeld => ?_)
       clear hb hb'
       have hb := hHeld
       clear hK K
       try simp only [Act.put, la3, la4, la5]
       refine Ord.walk_tail ?_; simp only [List.drop_succ_cons, List.drop_zero]
       have hbx := hb
       clear hb HZ
       have Kx2 := kb Kd hbx
       have Mu_2 := nb hbx Mu_d
       have Mp_2 := nb hbx Mp_d
       have Ms_2 := nb hbx Ms_d
       clear xs5 ls xu0 lu xp0 xp1 lp cb lbb
       clear hbx
       by_cases hc0 : cc = 0
       ·
        subst hc0
        have HF3 := Aid.hid (show Ty.firstOf ((s.bs.drop (k + 1)).map fun b => Ty.stmts p lo b.l) = r by have h := HF2.out; simpa using h)
        have HB3 := Aid.hid (HBB.out.trans (hHeld.mono HBB.out.size))
        go_wp2_with fail
        go_roundw
        case rel => exact ⟨k + 1, by go_num, by omega, HF3, HB3⟩
        case measure => simp [intOf]; omega
       ·
        have g0 : (cc != 0) = true := by simpa using hc0
        obtain rfl : cc = r := by have h := HF2.out; simpa [hc0] using h
        clear hc0
        go_wp2_with fail
        go_ret
        exact ⟨rfl, Kx2.out⟩
      ·
       obtain rfl : 0 = r := by have h := HF.out; rw [List.drop_eq_nil_of_le (by omega)] at h; exact h
       go_wp2_with fail
       go_ret
       exact ⟨rfl, Kd.out⟩
  ·
   have f1 : (t1.k != 1) = true := by simpa using hk1
   obtain rfl : 14 = r := by have h := HR.out; simpa [hk1] using h
   clear hk1
   go_wp2_with fail
   go_ret
   exact ⟨rfl, Kx1.out⟩
 ·
  have f1 : (d1 != 0) = true := by simpa using hd
  obtain rfl : d1 = r := by have h := HR.out; simpa [hd] using h
  clear hd
  go_wp2_with fail
  go_ret
  exact ⟨rfl, Kx1.out⟩
end Go.Proofs.Ytmhdcehpddbjaaa
/- The document's stmt, list and Stmts, as walks. -/
namespace Go.Proofs.Ytmhdcehpddbjaaa
open Go.RowKit

theorem Rf.stmt_bad (p : Pl) (lo : Bool) (s : St) (h : Rf.shaped s.k s.es.length s.bs.length (Rf.e0 s.es) s.ls = false) : Ty.stmt p lo s = 14 := by
 rw [Ty.stmt_eq, Ty.stmtG.eq_def, List.length_map]
 rw [Rf.shaped_eq] at h
 by_cases hf : Ty.formed s.k s.es.length s.bs.length s.ls = false
 ·
  rw [if_pos hf]
 ·
  rw [if_neg hf]
  have hf2 : Ty.formed s.k s.es.length s.bs.length s.ls = true := by simpa using hf
  rw [hf2, Bool.true_and, Bool.or_eq_false_iff] at h
  have h4 : s.k = 4 := by simpa using h.1
  rw [h4]
  rw [if_neg (by decide), if_pos rfl]
  have h0 := h.2
  cases hes : s.es with
  | nil => rfl
  | cons e l => rw [hes] at h0; simp only [Rf.e0] at h0; simp at h0; simp [h0]
theorem Rf.shaped_formed {s : St} (h : Rf.shaped s.k s.es.length s.bs.length (Rf.e0 s.es) s.ls = true) : Ty.formed s.k s.es.length s.bs.length s.ls = true ∧ (s.k = 4 → Rf.e0 s.es = true) := by
 rw [Rf.shaped_eq, Bool.and_eq_true, Bool.or_eq_true] at h
 refine ⟨h.1, fun h4 => ?_⟩
 rcases h.2 with h2 | h2
 ·
  simp [h4] at h2
 ·
  exact h2
theorem Rf.stmt_good (p : Pl) (lo : Bool) (s : St) (h : Ty.formed s.k s.es.length s.bs.length s.ls = true) : Ty.stmt p lo s = 
  (if s.k = 1 ∨ s.k = 2 ∨ s.k = 3 ∨ s.k = 8 ∨ s.k = 11 then Ty.changed p s.k s.n s.name (s.es.map (Ty.expr p)) (s.bs.map fun b => Ty.stmts p true b.l)
  else if s.k = 4 then (match s.es with | e :: _ => if e.k ≠ 13 then 14 else (Ty.inv p e).2 | [] => 14)
  else if s.k = 5 then Ty.choice (s.es.map (Ty.expr p)) (s.bs.map fun b => Ty.stmts p lo b.l)
  else if s.k = 6 then Ty.cases (Ty.hd (s.es.map (Ty.expr p))) s.ls (s.bs.map fun b => Ty.stmts p lo b.l)
  else if s.k = 7 then (if (Ty.same (Ty.hd (s.es.map (Ty.expr p))) 2).2 ≠ 0 then (Ty.same (Ty.hd (s.es.map (Ty.expr p))) 2).2 else (s.bs.map fun b => Ty.stmts p true b.l).headD 0)
  else if s.k = 9 then Ty.returned p (s.es.map (Ty.expr p))
  else if lo = false then 14 else 0) := by
 rw [Ty.stmt_eq, Ty.stmtG.eq_def, List.length_map, if_neg (by rw [h]; decide)]
 rfl
set_option maxRecDepth 100000 in
set_option maxHeartbeats 4000000 in
theorem rstmt_bad (f : Nat) (u : List Dk) (a : Option Addr) (B cap : Nat) (x y : Int) (p : Pl) (s : St) (lo : Bool) (r : Int) (w : World) (hr : Ty.stmt p lo s = r) (hp : Pl.at u x y = some p) (hl : ULim u) (hX : ∀ q ∈ s.es, RExOK f u a B cap x y p q) (hS : ∀ b ∈ s.bs, RStsOK f u a B cap x y p b.l) (hu : UnitAt w B a u) (hB : B ≤ w.heap.size) (he : ExsAt (f + 1) w B s.eA s.es)
  (hlb : Rows w B 1 s.lA (s.ls.map Lb.cells)) (hlx : ∀ x ∈ s.ls, x.xs.length ≤ 9223372036854775807 ∧ Rows w B 1 x.A (x.xs.map fun n => [Value.int .i64 n])) (hbs : Rows w B 1 s.bA (s.bs.map Bk.cells) ∧ ∀ b ∈ s.bs, StsAt f w B b.A b.l) (hlim : StLim s) (hcap : s.es.length ≤ s.ec) (hsh : Rf.shaped s.k s.es.length s.bs.length (Rf.e0 s.es) s.ls = false) :
  Calls Try.prog 63 #[.agg #[.slice a u.length cap], .agg #[.int .i64 x, .int .i64 y], .agg #[.int .i64 s.k, .int .i64 s.n, .string s.name, .slice s.eA s.es.length s.ec, .slice s.lA s.ls.length s.lc, .slice s.bA s.bs.length s.bc], .bool lo] w fun z w' => z = .returned (.int .i64 r) ∧ Below w.heap.size w w' := by
 have HU := Aid.hid hu; have HUL := Aid.hid hl; have HPP := Aid.hid hp; have HX := Aid.hid hX; have HS := Aid.hid hS; have HE := Aid.hid he; have HLB := Aid.hid hlb; have HLX := Aid.hid hlx; have HBS := Aid.hid hbs; have LIM := Aid.hid hlim; have HCP := Aid.hid hcap; have HSH := Aid.hid hsh
 have HR := Aid.hid hr
 obtain ⟨W, hW, Nu, Np, Ns, K0⟩ := newh3 w [.slice a u.length cap] [.int .i64 x, .int .i64 y] [.int .i64 s.k, .int .i64 s.n, .string s.name, .slice s.eA s.es.length s.ec, .slice s.lA s.ls.length s.lc, .slice s.bA s.bs.length s.bc] 24 26 58
 clear hr hp hl hX hS hu he hlb hlx hbs hlim hcap hsh
 obtain ⟨xu0, lu⟩ := xc1 Nu
 obtain ⟨xp0, xp1, lp⟩ := xc2 Np
 obtain ⟨xs0, xs1, xs2, xs3, xs4, xs5, ls⟩ := xc6 Ns
 go_enter Try.func63, Try.ntmps63
 try simp only [List.append_eq, List.cons_append, List.nil_append]
 go_wp2_with fail
 (try clear hW)
 refine (rshaped_is f B s false _ HSH.out (HLB.out.below K0.out hB) (HE.out.below K0.out hB) (Nat.le_trans hB (K0.out).size) LIM.out.e LIM.out.b LIM.out.l).mono ?_; rintro _ w1 ⟨rfl, hb1⟩
 have Kx1 := kb K0 hb1
 have Nu_1 := nb hb1 Nu
 have Np_1 := nb hb1 Np
 have Ns_1 := nb hb1 Ns
 clear xu0 lu xp0 xp1 lp xs0 xs1 xs2 xs3 xs4 xs5 ls
 clear hb1
 obtain ⟨xu0, lu⟩ := xc1 Nu_1
 obtain ⟨xp0, xp1, lp⟩ := xc2 Np_1
 obtain ⟨xs0, xs1, xs2, xs3, xs4, xs5, ls⟩ := xc6 Ns_1
 obtain rfl : 14 = r := by rw [← HR.out]; exact (Rf.stmt_bad p lo s HSH.out).symm
 go_wp2_with fail
 go_ret
 exact ⟨rfl, Kx1.out⟩
set_option maxRecDepth 100000 in
set_option maxHeartbeats 4000000 in
theorem rstmt_1 (f : Nat) (u : List Dk) (a : Option Addr) (B cap : Nat) (x y : Int) (p : Pl) (s : St) (lo : Bool) (r : Int) (w : World) (hr : Ty.stmt p lo s = r) (hp : Pl.at u x y = some p) (hl : ULim u) (hX : ∀ q ∈ s.es, RExOK f u a B cap x y p q) (hS : ∀ b ∈ s.bs, RStsOK f u a B cap x y p b.l) (hu : UnitAt w B a u) (hB : B ≤ w.heap.size) (he : ExsAt (f + 1) w B s.eA s.es)
  (hlb : Rows w B 1 s.lA (s.ls.map Lb.cells)) (hlx : ∀ x ∈ s.ls, x.xs.length ≤ 9223372036854775807 ∧ Rows w B 1 x.A (x.xs.map fun n => [Value.int .i64 n])) (hbs : Rows w B 1 s.bA (s.bs.map Bk.cells) ∧ ∀ b ∈ s.bs, StsAt f w B b.A b.l) (hlim : StLim s) (hcap : s.es.length ≤ s.ec) (hsh : Rf.shaped s.k s.es.length s.bs.length (Rf.e0 s.es) s.ls = true) (hk : s.k = 1) :
  Calls Try.prog 63 #[.agg #[.slice a u.length cap], .agg #[.int .i64 x, .int .i64 y], .agg #[.int .i64 s.k, .int .i64 s.n, .string s.name, .slice s.eA s.es.length s.ec, .slice s.lA s.ls.length s.lc, .slice s.bA s.bs.length s.bc], .bool lo] w fun z w' => z = .returned (.int .i64 r) ∧ Below w.heap.size w w' := by
 have HU := Aid.hid hu; have HUL := Aid.hid hl; have HPP := Aid.hid hp; have HX := Aid.hid hX; have HS := Aid.hid hS; have HE := Aid.hid he; have HLB := Aid.hid hlb; have HLX := Aid.hid hlx; have HBS := Aid.hid hbs; have LIM := Aid.hid hlim; have HCP := Aid.hid hcap; have HSH := Aid.hid hsh
 have k1 : (s.k == 1) = true := by simp [hk]
 obtain ⟨k2, k3, k8, k11, k4, k5, k6, k7, k9, -⟩ : nes s.k [2, 3, 8, 11, 4, 5, 6, 7, 9] := by simp [nes, hk]
 have HKK := Aid.hid hk
 have HR := Aid.hid hr
 obtain ⟨W, hW, Nu, Np, Ns, K0⟩ := newh3 w [.slice a u.length cap] [.int .i64 x, .int .i64 y] [.int .i64 s.k, .int .i64 s.n, .string s.name, .slice s.eA s.es.length s.ec, .slice s.lA s.ls.length s.lc, .slice s.bA s.bs.length s.bc] 24 26 58
 clear hr hp hl hX hS hu he hlb hlx hbs hlim hcap hsh hk
 obtain ⟨xu0, lu⟩ := xc1 Nu
 obtain ⟨xp0, xp1, lp⟩ := xc2 Np
 obtain ⟨xs0, xs1, xs2, xs3, xs4, xs5, ls⟩ := xc6 Ns
 go_enter Try.func63, Try.ntmps63
 try simp only [List.append_eq, List.cons_append, List.nil_append]
 go_wp2_with fail
 (try clear hW)
 refine (rshaped_is f B s true _ HSH.out (HLB.out.below K0.out hB) (HE.out.below K0.out hB) (Nat.le_trans hB (K0.out).size) LIM.out.e LIM.out.b LIM.out.l).mono ?_; rintro _ w1 ⟨rfl, hb1⟩
 have Kx1 := kb K0 hb1
 have Nu_1 := nb hb1 Nu
 have Np_1 := nb hb1 Np
 have Ns_1 := nb hb1 Ns
 clear xu0 lu xp0 xp1 lp xs0 xs1 xs2 xs3 xs4 xs5 ls
 clear hb1
 obtain ⟨xu0, lu⟩ := xc1 Nu_1
 obtain ⟨xp0, xp1, lp⟩ := xc2 Np_1
 obtain ⟨xs0, xs1, xs2, xs3, xs4, xs5, ls⟩ := xc6 Ns_1
 have HR2 : Hid (Ty.changed p s.k s.n s.name (s.es.map (Ty.expr p)) (s.bs.map fun b => Ty.stmts p true b.l) = r) := Aid.hid (by have h := HR.out; rw [Rf.stmt_good p lo s (Rf.shaped_formed HSH.out).1, if_pos (by rw [HKK.out]; decide)] at h; exact h)
 have HLN : Hid (s.es.length = 1) := Aid.hid (by have h := (Rf.shaped_formed HSH.out).1; rw [HKK.out] at h; simp [Ty.formed] at h; exact h.1)
 go_wp2_with fail
 refine (ronVar_1 f u a B cap x y p s r _ HR2.out HPP.out HUL.out HX.out (HU.out.below (Kx1.out) hB) (Nat.le_trans hB (Kx1.out).size) (HE.out.below Kx1.out hB) HCP.out HKK.out HLN.out).mono ?_; rintro _ w2 ⟨rfl, hb2⟩
 have Kx2 := kb Kx1 hb2
 have Nu_2 := nb hb2 Nu_1
 have Np_2 := nb hb2 Np_1
 have Ns_2 := nb hb2 Ns_1
 clear xu0 lu xp0 xp1 lp xs0 xs1 xs2 xs3 xs4 xs5 ls
 clear hb2
 go_wp2_with fail
 go_ret
 exact ⟨rfl, Kx2.out⟩
set_option maxRecDepth 100000 in
set_option maxHeartbeats 4000000 in
theorem rstmt_2 (f : Nat) (u : List Dk) (a : Option Addr) (B cap : Nat) (x y : Int) (p : Pl) (s : St) (lo : Bool) (r : Int) (w : World) (hr : Ty.stmt p lo s = r) (hp : Pl.at u x y = some p) (hl : ULim u) (hX : ∀ q ∈ s.es, RExOK f u a B cap x y p q) (hS : ∀ b ∈ s.bs, RStsOK f u a B cap x y p b.l) (hu : UnitAt w B a u) (hB : B ≤ w.heap.size) (he : ExsAt (f + 1) w B s.eA s.es)
  (hlb : Rows w B 1 s.lA (s.ls.map Lb.cells)) (hlx : ∀ x ∈ s.ls, x.xs.length ≤ 9223372036854775807 ∧ Rows w B 1 x.A (x.xs.map fun n => [Value.int .i64 n])) (hbs : Rows w B 1 s.bA (s.bs.map Bk.cells) ∧ ∀ b ∈ s.bs, StsAt f w B b.A b.l) (hlim : StLim s) (hcap : s.es.length ≤ s.ec) (hsh : Rf.shaped s.k s.es.length s.bs.length (Rf.e0 s.es) s.ls = true) (hk : s.k = 2) :
  Calls Try.prog 63 #[.agg #[.slice a u.length cap], .agg #[.int .i64 x, .int .i64 y], .agg #[.int .i64 s.k, .int .i64 s.n, .string s.name, .slice s.eA s.es.length s.ec, .slice s.lA s.ls.length s.lc, .slice s.bA s.bs.length s.bc], .bool lo] w fun z w' => z = .returned (.int .i64 r) ∧ Below w.heap.size w w' := by
 have HU := Aid.hid hu; have HUL := Aid.hid hl; have HPP := Aid.hid hp; have HX := Aid.hid hX; have HS := Aid.hid hS; have HE := Aid.hid he; have HLB := Aid.hid hlb; have HLX := Aid.hid hlx; have HBS := Aid.hid hbs; have LIM := Aid.hid hlim; have HCP := Aid.hid hcap; have HSH := Aid.hid hsh
 have k1 : (s.k == 1) = false := by simp [hk]
 have k2 : (s.k == 2) = true := by simp [hk]
 obtain ⟨k3, k8, k11, k4, k5, k6, k7, k9, -⟩ : nes s.k [3, 8, 11, 4, 5, 6, 7, 9] := by simp [nes, hk]
 have HKK := Aid.hid hk
 have HR := Aid.hid hr
 obtain ⟨W, hW, Nu, Np, Ns, K0⟩ := newh3 w [.slice a u.length cap] [.int .i64 x, .int .i64 y] [.int .i64 s.k, .int .i64 s.n, .string s.name, .slice s.eA s.es.length s.ec, .slice s.lA s.ls.length s.lc, .slice s.bA s.bs.length s.bc] 24 26 58
 clear hr hp hl hX hS hu he hlb hlx hbs hlim hcap hsh hk
 obtain ⟨xu0, lu⟩ := xc1 Nu
 obtain ⟨xp0, xp1, lp⟩ := xc2 Np
 obtain ⟨xs0, xs1, xs2, xs3, xs4, xs5, ls⟩ := xc6 Ns
 go_enter Try.func63, Try.ntmps63
 try simp only [List.append_eq, List.cons_append, List.nil_append]
 go_wp2_with fail
 (try clear hW)
 refine (rshaped_is f B s true _ HSH.out (HLB.out.below K0.out hB) (HE.out.below K0.out hB) (Nat.le_trans hB (K0.out).size) LIM.out.e LIM.out.b LIM.out.l).mono ?_; rintro _ w1 ⟨rfl, hb1⟩
 have Kx1 := kb K0 hb1
 have Nu_1 := nb hb1 Nu
 have Np_1 := nb hb1 Np
 have Ns_1 := nb hb1 Ns
 clear xu0 lu xp0 xp1 lp xs0 xs1 xs2 xs3 xs4 xs5 ls
 clear hb1
 obtain ⟨xu0, lu⟩ := xc1 Nu_1
 obtain ⟨xp0, xp1, lp⟩ := xc2 Np_1
 obtain ⟨xs0, xs1, xs2, xs3, xs4, xs5, ls⟩ := xc6 Ns_1
 have HR2 : Hid (Ty.changed p s.k s.n s.name (s.es.map (Ty.expr p)) (s.bs.map fun b => Ty.stmts p true b.l) = r) := Aid.hid (by have h := HR.out; rw [Rf.stmt_good p lo s (Rf.shaped_formed HSH.out).1, if_pos (by rw [HKK.out]; decide)] at h; exact h)
 have HLN : Hid (s.es.length = 2) := Aid.hid (by have h := (Rf.shaped_formed HSH.out).1; rw [HKK.out] at h; simp [Ty.formed] at h; exact h.1)
 go_wp2_with fail
 refine (ronVar_2 f u a B cap x y p s r _ HR2.out HPP.out HUL.out HX.out (HU.out.below (Kx1.out) hB) (Nat.le_trans hB (Kx1.out).size) (HE.out.below Kx1.out hB) HCP.out HKK.out HLN.out).mono ?_; rintro _ w2 ⟨rfl, hb2⟩
 have Kx2 := kb Kx1 hb2
 have Nu_2 := nb hb2 Nu_1
 have Np_2 := nb hb2 Np_1
 have Ns_2 := nb hb2 Ns_1
 clear xu0 lu xp0 xp1 lp xs0 xs1 xs2 xs3 xs4 xs5 ls
 clear hb2
 go_wp2_with fail
 go_ret
 exact ⟨rfl, Kx2.out⟩
set_option maxRecDepth 100000 in
set_option maxHeartbeats 4000000 in
theorem rstmt_3 (f : Nat) (u : List Dk) (a : Option Addr) (B cap : Nat) (x y : Int) (p : Pl) (s : St) (lo : Bool) (r : Int) (w : World) (hr : Ty.stmt p lo s = r) (hp : Pl.at u x y = some p) (hl : ULim u) (hX : ∀ q ∈ s.es, RExOK f u a B cap x y p q) (hS : ∀ b ∈ s.bs, RStsOK f u a B cap x y p b.l) (hu : UnitAt w B a u) (hB : B ≤ w.heap.size) (he : ExsAt (f + 1) w B s.eA s.es)
  (hlb : Rows w B 1 s.lA (s.ls.map Lb.cells)) (hlx : ∀ x ∈ s.ls, x.xs.length ≤ 9223372036854775807 ∧ Rows w B 1 x.A (x.xs.map fun n => [Value.int .i64 n])) (hbs : Rows w B 1 s.bA (s.bs.map Bk.cells) ∧ ∀ b ∈ s.bs, StsAt f w B b.A b.l) (hlim : StLim s) (hcap : s.es.length ≤ s.ec) (hsh : Rf.shaped s.k s.es.length s.bs.length (Rf.e0 s.es) s.ls = true) (hk : s.k = 3) :
  Calls Try.prog 63 #[.agg #[.slice a u.length cap], .agg #[.int .i64 x, .int .i64 y], .agg #[.int .i64 s.k, .int .i64 s.n, .string s.name, .slice s.eA s.es.length s.ec, .slice s.lA s.ls.length s.lc, .slice s.bA s.bs.length s.bc], .bool lo] w fun z w' => z = .returned (.int .i64 r) ∧ Below w.heap.size w w' := by
 have HU := Aid.hid hu; have HUL := Aid.hid hl; have HPP := Aid.hid hp; have HX := Aid.hid hX; have HS := Aid.hid hS; have HE := Aid.hid he; have HLB := Aid.hid hlb; have HLX := Aid.hid hlx; have HBS := Aid.hid hbs; have LIM := Aid.hid hlim; have HCP := Aid.hid hcap; have HSH := Aid.hid hsh
 have k1 : (s.k == 1) = false := by simp [hk]
 have k2 : (s.k == 2) = false := by simp [hk]
 have k3 : (s.k == 3) = true := by simp [hk]
 obtain ⟨k8, k11, k4, k5, k6, k7, k9, -⟩ : nes s.k [8, 11, 4, 5, 6, 7, 9] := by simp [nes, hk]
 have HKK := Aid.hid hk
 have HR := Aid.hid hr
 obtain ⟨W, hW, Nu, Np, Ns, K0⟩ := newh3 w [.slice a u.length cap] [.int .i64 x, .int .i64 y] [.int .i64 s.k, .int .i64 s.n, .string s.name, .slice s.eA s.es.length s.ec, .slice s.lA s.ls.length s.lc, .slice s.bA s.bs.length s.bc] 24 26 58
 clear hr hp hl hX hS hu he hlb hlx hbs hlim hcap hsh hk
 obtain ⟨xu0, lu⟩ := xc1 Nu
 obtain ⟨xp0, xp1, lp⟩ := xc2 Np
 obtain ⟨xs0, xs1, xs2, xs3, xs4, xs5, ls⟩ := xc6 Ns
 go_enter Try.func63, Try.ntmps63
 try simp only [List.append_eq, List.cons_append, List.nil_append]
 go_wp2_with fail
 (try clear hW)
 refine (rshaped_is f B s true _ HSH.out (HLB.out.below K0.out hB) (HE.out.below K0.out hB) (Nat.le_trans hB (K0.out).size) LIM.out.e LIM.out.b LIM.out.l).mono ?_; rintro _ w1 ⟨rfl, hb1⟩
 have Kx1 := kb K0 hb1
 have Nu_1 := nb hb1 Nu
 have Np_1 := nb hb1 Np
 have Ns_1 := nb hb1 Ns
 clear xu0 lu xp0 xp1 lp xs0 xs1 xs2 xs3 xs4 xs5 ls
 clear hb1
 obtain ⟨xu0, lu⟩ := xc1 Nu_1
 obtain ⟨xp0, xp1, lp⟩ := xc2 Np_1
 obtain ⟨xs0, xs1, xs2, xs3, xs4, xs5, ls⟩ := xc6 Ns_1
 have HR2 : Hid (Ty.changed p s.k s.n s.name (s.es.map (Ty.expr p)) (s.bs.map fun b => Ty.stmts p true b.l) = r) := Aid.hid (by have h := HR.out; rw [Rf.stmt_good p lo s (Rf.shaped_formed HSH.out).1, if_pos (by rw [HKK.out]; decide)] at h; exact h)
 have HLN : Hid (s.es.length = 1) := Aid.hid (by have h := (Rf.shaped_formed HSH.out).1; rw [HKK.out] at h; simp [Ty.formed] at h; exact h.1)
 go_wp2_with fail
 refine (ronVar_3 f u a B cap x y p s r _ HR2.out HPP.out HUL.out HX.out (HU.out.below (Kx1.out) hB) (Nat.le_trans hB (Kx1.out).size) (HE.out.below Kx1.out hB) HCP.out HKK.out HLN.out).mono ?_; rintro _ w2 ⟨rfl, hb2⟩
 have Kx2 := kb Kx1 hb2
 have Nu_2 := nb hb2 Nu_1
 have Np_2 := nb hb2 Np_1
 have Ns_2 := nb hb2 Ns_1
 clear xu0 lu xp0 xp1 lp xs0 xs1 xs2 xs3 xs4 xs5 ls
 clear hb2
 go_wp2_with fail
 go_ret
 exact ⟨rfl, Kx2.out⟩
set_option maxRecDepth 100000 in
set_option maxHeartbeats 4000000 in
theorem rstmt_11 (f : Nat) (u : List Dk) (a : Option Addr) (B cap : Nat) (x y : Int) (p : Pl) (s : St) (lo : Bool) (r : Int) (w : World) (hr : Ty.stmt p lo s = r) (hp : Pl.at u x y = some p) (hl : ULim u) (hX : ∀ q ∈ s.es, RExOK f u a B cap x y p q) (hS : ∀ b ∈ s.bs, RStsOK f u a B cap x y p b.l) (hu : UnitAt w B a u) (hB : B ≤ w.heap.size) (he : ExsAt (f + 1) w B s.eA s.es)
  (hlb : Rows w B 1 s.lA (s.ls.map Lb.cells)) (hlx : ∀ x ∈ s.ls, x.xs.length ≤ 9223372036854775807 ∧ Rows w B 1 x.A (x.xs.map fun n => [Value.int .i64 n])) (hbs : Rows w B 1 s.bA (s.bs.map Bk.cells) ∧ ∀ b ∈ s.bs, StsAt f w B b.A b.l) (hlim : StLim s) (hcap : s.es.length ≤ s.ec) (hsh : Rf.shaped s.k s.es.length s.bs.length (Rf.e0 s.es) s.ls = true) (hk : s.k = 11) :
  Calls Try.prog 63 #[.agg #[.slice a u.length cap], .agg #[.int .i64 x, .int .i64 y], .agg #[.int .i64 s.k, .int .i64 s.n, .string s.name, .slice s.eA s.es.length s.ec, .slice s.lA s.ls.length s.lc, .slice s.bA s.bs.length s.bc], .bool lo] w fun z w' => z = .returned (.int .i64 r) ∧ Below w.heap.size w w' := by
 have HU := Aid.hid hu; have HUL := Aid.hid hl; have HPP := Aid.hid hp; have HX := Aid.hid hX; have HS := Aid.hid hS; have HE := Aid.hid he; have HLB := Aid.hid hlb; have HLX := Aid.hid hlx; have HBS := Aid.hid hbs; have LIM := Aid.hid hlim; have HCP := Aid.hid hcap; have HSH := Aid.hid hsh
 obtain ⟨k1, k2, k3, k8, -⟩ : nes s.k [1, 2, 3, 8] := by simp [nes, hk]
 have k11 : (s.k == 11) = true := by simp [hk]
 obtain ⟨k4, k5, k6, k7, k9, -⟩ : nes s.k [4, 5, 6, 7, 9] := by simp [nes, hk]
 have HKK := Aid.hid hk
 have HR := Aid.hid hr
 obtain ⟨W, hW, Nu, Np, Ns, K0⟩ := newh3 w [.slice a u.length cap] [.int .i64 x, .int .i64 y] [.int .i64 s.k, .int .i64 s.n, .string s.name, .slice s.eA s.es.length s.ec, .slice s.lA s.ls.length s.lc, .slice s.bA s.bs.length s.bc] 24 26 58
 clear hr hp hl hX hS hu he hlb hlx hbs hlim hcap hsh hk
 obtain ⟨xu0, lu⟩ := xc1 Nu
 obtain ⟨xp0, xp1, lp⟩ := xc2 Np
 obtain ⟨xs0, xs1, xs2, xs3, xs4, xs5, ls⟩ := xc6 Ns
 go_enter Try.func63, Try.ntmps63
 try simp only [List.append_eq, List.cons_append, List.nil_append]
 go_wp2_with fail
 (try clear hW)
 refine (rshaped_is f B s true _ HSH.out (HLB.out.below K0.out hB) (HE.out.below K0.out hB) (Nat.le_trans hB (K0.out).size) LIM.out.e LIM.out.b LIM.out.l).mono ?_; rintro _ w1 ⟨rfl, hb1⟩
 have Kx1 := kb K0 hb1
 have Nu_1 := nb hb1 Nu
 have Np_1 := nb hb1 Np
 have Ns_1 := nb hb1 Ns
 clear xu0 lu xp0 xp1 lp xs0 xs1 xs2 xs3 xs4 xs5 ls
 clear hb1
 obtain ⟨xu0, lu⟩ := xc1 Nu_1
 obtain ⟨xp0, xp1, lp⟩ := xc2 Np_1
 obtain ⟨xs0, xs1, xs2, xs3, xs4, xs5, ls⟩ := xc6 Ns_1
 have HR2 : Hid (Ty.changed p s.k s.n s.name (s.es.map (Ty.expr p)) (s.bs.map fun b => Ty.stmts p true b.l) = r) := Aid.hid (by have h := HR.out; rw [Rf.stmt_good p lo s (Rf.shaped_formed HSH.out).1, if_pos (by rw [HKK.out]; decide)] at h; exact h)
 have HLN : Hid (s.es.length = 2) := Aid.hid (by have h := (Rf.shaped_formed HSH.out).1; rw [HKK.out] at h; simp [Ty.formed] at h; exact h.1)
 go_wp2_with fail
 refine (ronVar_11 f u a B cap x y p s r _ HR2.out HPP.out HUL.out HX.out (HU.out.below (Kx1.out) hB) (Nat.le_trans hB (Kx1.out).size) (HE.out.below Kx1.out hB) HCP.out HKK.out HLN.out).mono ?_; rintro _ w2 ⟨rfl, hb2⟩
 have Kx2 := kb Kx1 hb2
 have Nu_2 := nb hb2 Nu_1
 have Np_2 := nb hb2 Np_1
 have Ns_2 := nb hb2 Ns_1
 clear xu0 lu xp0 xp1 lp xs0 xs1 xs2 xs3 xs4 xs5 ls
 clear hb2
 go_wp2_with fail
 go_ret
 exact ⟨rfl, Kx2.out⟩
set_option maxRecDepth 100000 in
set_option maxHeartbeats 4000000 in
theorem rstmt_8 (f : Nat) (u : List Dk) (a : Option Addr) (B cap : Nat) (x y : Int) (p : Pl) (s : St) (lo : Bool) (r : Int) (w : World) (hr : Ty.stmt p lo s = r) (hp : Pl.at u x y = some p) (hl : ULim u) (hX : ∀ q ∈ s.es, RExOK f u a B cap x y p q) (hS : ∀ b ∈ s.bs, RStsOK f u a B cap x y p b.l) (hu : UnitAt w B a u) (hB : B ≤ w.heap.size) (he : ExsAt (f + 1) w B s.eA s.es)
  (hlb : Rows w B 1 s.lA (s.ls.map Lb.cells)) (hlx : ∀ x ∈ s.ls, x.xs.length ≤ 9223372036854775807 ∧ Rows w B 1 x.A (x.xs.map fun n => [Value.int .i64 n])) (hbs : Rows w B 1 s.bA (s.bs.map Bk.cells) ∧ ∀ b ∈ s.bs, StsAt f w B b.A b.l) (hlim : StLim s) (hcap : s.es.length ≤ s.ec) (hsh : Rf.shaped s.k s.es.length s.bs.length (Rf.e0 s.es) s.ls = true) (hk : s.k = 8) :
  Calls Try.prog 63 #[.agg #[.slice a u.length cap], .agg #[.int .i64 x, .int .i64 y], .agg #[.int .i64 s.k, .int .i64 s.n, .string s.name, .slice s.eA s.es.length s.ec, .slice s.lA s.ls.length s.lc, .slice s.bA s.bs.length s.bc], .bool lo] w fun z w' => z = .returned (.int .i64 r) ∧ Below w.heap.size w w' := by
 have HU := Aid.hid hu; have HUL := Aid.hid hl; have HPP := Aid.hid hp; have HX := Aid.hid hX; have HS := Aid.hid hS; have HE := Aid.hid he; have HLB := Aid.hid hlb; have HLX := Aid.hid hlx; have HBS := Aid.hid hbs; have LIM := Aid.hid hlim; have HCP := Aid.hid hcap; have HSH := Aid.hid hsh
 obtain ⟨k1, k2, k3, -⟩ : nes s.k [1, 2, 3] := by simp [nes, hk]
 have k8 : (s.k == 8) = true := by simp [hk]
 obtain ⟨k11, k4, k5, k6, k7, k9, -⟩ : nes s.k [11, 4, 5, 6, 7, 9] := by simp [nes, hk]
 have HKK := Aid.hid hk
 have HR := Aid.hid hr
 obtain ⟨W, hW, Nu, Np, Ns, K0⟩ := newh3 w [.slice a u.length cap] [.int .i64 x, .int .i64 y] [.int .i64 s.k, .int .i64 s.n, .string s.name, .slice s.eA s.es.length s.ec, .slice s.lA s.ls.length s.lc, .slice s.bA s.bs.length s.bc] 24 26 58
 clear hr hp hl hX hS hu he hlb hlx hbs hlim hcap hsh hk
 obtain ⟨xu0, lu⟩ := xc1 Nu
 obtain ⟨xp0, xp1, lp⟩ := xc2 Np
 obtain ⟨xs0, xs1, xs2, xs3, xs4, xs5, ls⟩ := xc6 Ns
 go_enter Try.func63, Try.ntmps63
 try simp only [List.append_eq, List.cons_append, List.nil_append]
 go_wp2_with fail
 (try clear hW)
 refine (rshaped_is f B s true _ HSH.out (HLB.out.below K0.out hB) (HE.out.below K0.out hB) (Nat.le_trans hB (K0.out).size) LIM.out.e LIM.out.b LIM.out.l).mono ?_; rintro _ w1 ⟨rfl, hb1⟩
 have Kx1 := kb K0 hb1
 have Nu_1 := nb hb1 Nu
 have Np_1 := nb hb1 Np
 have Ns_1 := nb hb1 Ns
 clear xu0 lu xp0 xp1 lp xs0 xs1 xs2 xs3 xs4 xs5 ls
 clear hb1
 obtain ⟨xu0, lu⟩ := xc1 Nu_1
 obtain ⟨xp0, xp1, lp⟩ := xc2 Np_1
 obtain ⟨xs0, xs1, xs2, xs3, xs4, xs5, ls⟩ := xc6 Ns_1
 have HR2 : Hid (Ty.changed p s.k s.n s.name (s.es.map (Ty.expr p)) (s.bs.map fun b => Ty.stmts p true b.l) = r) := Aid.hid (by have h := HR.out; rw [Rf.stmt_good p lo s (Rf.shaped_formed HSH.out).1, if_pos (by rw [HKK.out]; decide)] at h; exact h)
 have HLN : Hid (s.es.length = 2) := Aid.hid (by have h := (Rf.shaped_formed HSH.out).1; rw [HKK.out] at h; simp [Ty.formed] at h; exact h.1)
 have HBN : Hid (s.bs.length = 1) := Aid.hid (by have h := (Rf.shaped_formed HSH.out).1; rw [HKK.out] at h; simp [Ty.formed] at h; exact h.2.1)
 go_wp2_with fail
 refine (ronVar_8 f u a B cap x y p s r _ HR2.out HPP.out HUL.out HX.out (HU.out.below (Kx1.out) hB) (Nat.le_trans hB (Kx1.out).size) (HE.out.below Kx1.out hB) HCP.out HKK.out HLN.out _ rfl HS.out ⟨⟨HBS.out.1.below Kx1.out hB, fun b hb => (HBS.out.2 b hb).below Kx1.out hB⟩, HBN.out⟩).mono ?_; rintro _ w2 ⟨rfl, hb2⟩
 have Kx2 := kb Kx1 hb2
 have Nu_2 := nb hb2 Nu_1
 have Np_2 := nb hb2 Np_1
 have Ns_2 := nb hb2 Ns_1
 clear xu0 lu xp0 xp1 lp xs0 xs1 xs2 xs3 xs4 xs5 ls
 clear hb2
 go_wp2_with fail
 go_ret
 exact ⟨rfl, Kx2.out⟩
set_option maxRecDepth 100000 in
set_option maxHeartbeats 4000000 in
theorem rstmt_4 (f : Nat) (u : List Dk) (a : Option Addr) (B cap : Nat) (x y : Int) (p : Pl) (s : St) (lo : Bool) (r : Int) (w : World) (hr : Ty.stmt p lo s = r) (hp : Pl.at u x y = some p) (hl : ULim u) (hX : ∀ q ∈ s.es, RExOK f u a B cap x y p q) (hS : ∀ b ∈ s.bs, RStsOK f u a B cap x y p b.l) (hu : UnitAt w B a u) (hB : B ≤ w.heap.size) (he : ExsAt (f + 1) w B s.eA s.es)
  (hlb : Rows w B 1 s.lA (s.ls.map Lb.cells)) (hlx : ∀ x ∈ s.ls, x.xs.length ≤ 9223372036854775807 ∧ Rows w B 1 x.A (x.xs.map fun n => [Value.int .i64 n])) (hbs : Rows w B 1 s.bA (s.bs.map Bk.cells) ∧ ∀ b ∈ s.bs, StsAt f w B b.A b.l) (hlim : StLim s) (hcap : s.es.length ≤ s.ec) (hsh : Rf.shaped s.k s.es.length s.bs.length (Rf.e0 s.es) s.ls = true) (hk : s.k = 4) (hlx4 : ∀ e ∈ s.es, e.args.length ≤ 1000000000) (hxx : ∀ e ∈ s.es, ∀ q ∈ e.args, RExOK f u a B cap x y p q) :
  Calls Try.prog 63 #[.agg #[.slice a u.length cap], .agg #[.int .i64 x, .int .i64 y], .agg #[.int .i64 s.k, .int .i64 s.n, .string s.name, .slice s.eA s.es.length s.ec, .slice s.lA s.ls.length s.lc, .slice s.bA s.bs.length s.bc], .bool lo] w fun z w' => z = .returned (.int .i64 r) ∧ Below w.heap.size w w' := by
 have HU := Aid.hid hu; have HUL := Aid.hid hl; have HPP := Aid.hid hp; have HX := Aid.hid hX; have HS := Aid.hid hS; have HE := Aid.hid he; have HLB := Aid.hid hlb; have HLX := Aid.hid hlx; have HBS := Aid.hid hbs; have LIM := Aid.hid hlim; have HCP := Aid.hid hcap; have HSH := Aid.hid hsh
 obtain ⟨k1, k2, k3, k8, k11, -⟩ : nes s.k [1, 2, 3, 8, 11] := by simp [nes, hk]
 have k4 : (s.k == 4) = true := by simp [hk]
 obtain ⟨k5, k6, k7, k9, -⟩ : nes s.k [5, 6, 7, 9] := by simp [nes, hk]
 have HKK := Aid.hid hk
 have HR := Aid.hid hr
 have LIMX := Aid.hid hlx4; have HXX := Aid.hid hxx
 clear hlx4 hxx
 obtain ⟨W, hW, Nu, Np, Ns, K0⟩ := newh3 w [.slice a u.length cap] [.int .i64 x, .int .i64 y] [.int .i64 s.k, .int .i64 s.n, .string s.name, .slice s.eA s.es.length s.ec, .slice s.lA s.ls.length s.lc, .slice s.bA s.bs.length s.bc] 24 26 58
 clear hr hp hl hX hS hu he hlb hlx hbs hlim hcap hsh hk
 obtain ⟨xu0, lu⟩ := xc1 Nu
 obtain ⟨xp0, xp1, lp⟩ := xc2 Np
 obtain ⟨xs0, xs1, xs2, xs3, xs4, xs5, ls⟩ := xc6 Ns
 go_enter Try.func63, Try.ntmps63
 try simp only [List.append_eq, List.cons_append, List.nil_append]
 go_wp2_with fail
 (try clear hW)
 refine (rshaped_is f B s true _ HSH.out (HLB.out.below K0.out hB) (HE.out.below K0.out hB) (Nat.le_trans hB (K0.out).size) LIM.out.e LIM.out.b LIM.out.l).mono ?_; rintro _ w1 ⟨rfl, hb1⟩
 have Kx1 := kb K0 hb1
 have Nu_1 := nb hb1 Nu
 have Np_1 := nb hb1 Np
 have Ns_1 := nb hb1 Ns
 clear xu0 lu xp0 xp1 lp xs0 xs1 xs2 xs3 xs4 xs5 ls
 clear hb1
 obtain ⟨xu0, lu⟩ := xc1 Nu_1
 obtain ⟨xp0, xp1, lp⟩ := xc2 Np_1
 obtain ⟨xs0, xs1, xs2, xs3, xs4, xs5, ls⟩ := xc6 Ns_1
 obtain ⟨e, he⟩ : ∃ e, s.es = [e] := by
  have h := (Rf.shaped_formed HSH.out).1
  rw [HKK.out] at h
  exact List.length_eq_one_iff.1 (by simp [Ty.formed] at h; exact h.1)
 have HES := Aid.hid he
 have h13 : e.k = 13 := by
  have h := (Rf.shaped_formed HSH.out).2 HKK.out
  rw [he] at h; simpa [Rf.e0] using h
 obtain ⟨⟨t1, c1⟩, hi1⟩ : ∃ r, Ty.inv p e = r := ⟨_, rfl⟩
 have HI := Aid.hid hi1
 obtain rfl : c1 = r := by have h := HR.out; rw [Rf.stmt_good p lo s (Rf.shaped_formed HSH.out).1, HKK.out] at h; rw [he] at h; simpa [h13, hi1] using h
 have HLE := Aid.hid (LIMX.out e (by rw [he]; simp))
 have HXA := Aid.hid (HXX.out e (by rw [he]; simp))
 clear he h13 hi1
 obtain ⟨eb, off, hA, hebB, hc, hs⟩ := Ex.at1 (HE.out.below Kx1.out hB) (i := 0) (e := e) (by rw [HES.out]; rfl)
 have ce0 := hc 0 _ rfl
 have ce1 := hc 1 _ rfl
 have ce2 := hc 2 _ rfl
 have ce3 := hc 3 _ rfl
 have ce4 := hc 4 _ rfl
 simp only [Nat.add_zero, Nat.zero_mul] at ce0 ce1 ce2 ce3 ce4
 have leb : eb < w1.heap.size := Nat.lt_of_lt_of_le hebB (Nat.le_trans hB (Kx1.out).size)
 have HSS := Aid.hid hs
 have hl1 : s.es.length = 1 := by rw [HES.out]; rfl
 rw [hA, hl1] at xs3
 have HA := Aid.hid hA
 have hi01 : 0 < 1 := by decide
 clear hc hs hA hl1
 go_wp2_with fail
 refine wp_cut (fun a0 e a' w' => e = .normal ∧ Aid.Kept (∃ (g : Nat) (v32 v33 v34 v35 v36 v37 v38 v31 v39 v40 : Value), a' = putL a0 [(32, v32), (33, v33), (34, v34), (35, v35), (36, v36), (37, v37), (38, v38), (31, v31), (39, v39), (40, v40), (9, .pointer (some ⟨g, 0, none⟩)), (10, .int .i64 c1)] ∧ Aid.Has w' g [.int .i64 t1.k, .int .i64 t1.lo, .int .i64 t1.hi, .string t1.name] 36 ∧ w1.heap.size ≤ g ∧ Below w1.heap.size w1 w')) ?_ ?_
 ·
  have HZ := Aid.hid (fun (w' : World) (hSw : Below w1.heap.size w1 w') => (⟨kc hSw xu0 lu, kc hSw xp0 lp, kc hSw xp1 lp, kc hSw xs0 ls, kc hSw xs1 ls, kc hSw xs2 ls, kc hSw xs3 ls, kc hSw xs4 ls, kc hSw xs5 ls, kc hSw ce0 leb, kc hSw ce1 leb, kc hSw ce2 leb, kc hSw ce3 leb, kc hSw ce4 leb⟩ : _ ∧ _ ∧ _ ∧ _ ∧ _ ∧ _ ∧ _ ∧ _ ∧ _ ∧ _ ∧ _ ∧ _ ∧ _ ∧ _))
  have hb : Below w1.heap.size w1 w1.drew := (Below.refl _ _).drew
  refine Ord.wp_region_go (fun w' => Below w1.heap.size w1 w') 12 [0, 1, 2, 3, 4, 5, 7, 8, 9] (by kernel_rfl) (by kernel_rfl) (fun _ _ _ _ _ h => by cases h.1) (hb) ?_
  clear hb
  have hb : Below w1.heap.size w1 w1.drew := (Below.refl _ _).drew
  generalize w1.drew = wd0 at *
  apply Ord.go_light (i := 0) (by kernel_rfl)
  next => (simp only [la0, la1, la2]; rfl)
  next => rfl
  next => (intro w' hSw; have z := HZ.out w' hSw; clear hSw; go_simp; first | done | with_reducible rfl)
  simp only [Act.put, la3, la4, la5]
  apply Ord.go_light (i := 1) (by kernel_rfl)
  next => (simp only [la0, la1, la2]; rfl)
  next => rfl
  next => (intro w' hSw; have z := HZ.out w' hSw; clear hSw; go_simp; first | done | with_reducible rfl)
  simp only [Act.put, la3, la4, la5]
  apply Ord.go_light (i := 2) (by kernel_rfl)
  next => (simp only [la0, la1, la2]; rfl)
  next => rfl
  next => (intro w' hSw; have z := HZ.out w' hSw; clear hSw; go_simp; first | done | with_reducible rfl)
  simp only [Act.put, la3, la4, la5]
  apply Ord.go_light (i := 3) (by kernel_rfl)
  next => (simp only [la0, la1, la2]; rfl)
  next => rfl
  next => (intro w' hSw; have z := HZ.out w' hSw; clear hSw; go_simp; first | done | with_reducible rfl)
  simp only [Act.put, la3, la4, la5]
  apply Ord.go_light (i := 4) (by kernel_rfl)
  next => (simp only [la0, la1, la2]; rfl)
  next => rfl
  next => (intro w' hSw; have z := HZ.out w' hSw; clear hSw; go_simp; first | done | with_reducible rfl)
  simp only [Act.put, la3, la4, la5]
  apply Ord.go_light (i := 5) (by kernel_rfl)
  next => (simp only [la0, la1, la2]; rfl)
  next => rfl
  next => (intro w' hSw; have z := HZ.out w' hSw; clear hSw; go_simp; first | done | with_reducible rfl)
  simp only [Act.put, la3, la4, la5]
  refine Ord.go_two (i := 6) (j := 10) (by kernel_rfl) (by kernel_rfl) ?_ ?_
  ·
   apply Ord.go_done1
   next => (simp only [la0, la1, la2]; rfl)
   next => rfl
   intro K hK
   go_wp2_with fail
   refine (rinvoke_is f u a B cap x y p e t1 c1 _ HI.out HPP.out HUL.out HXA.out (HU.out.below (((Kx1.out).trans (hb.mono (Kx1.out).size))) hB) (Nat.le_trans hB (((Kx1.out).trans (hb.mono (Kx1.out).size))).size) (HSS.out.below (hb.mono (Nat.le_trans hB (Kx1.out).size)) (Nat.le_refl _)).up HLE.out).mono ?_; rintro _ vc ⟨rfl, hb'⟩; dsimp only
   refine hK.out _ _ (hb.trans (hb'.mono hb.size)) (fun hHeld => ?_)
   clear hb hb'
   have hb := hHeld
   clear hK K
   try simp only [Act.put, la3, la4, la5]
   apply Ord.go_light (i := 7) (by kernel_rfl)
   next => (simp only [la0, la1, la2]; rfl)
   next => rfl
   next => (intro w' hSw; have z := HZ.out w' hSw; clear hSw; go_simp; first | done | with_reducible rfl)
   simp only [Act.put, la3, la4, la5]
   apply Ord.go_light (i := 8) (by kernel_rfl)
   next => (simp only [la0, la1, la2]; rfl)
   next => rfl
   next => (intro w' hSw; have z := HZ.out w' hSw; clear hSw; go_simp; first | done | with_reducible rfl)
   simp only [Act.put, la3, la4, la5]
   apply Ord.go_light (i := 9) (by kernel_rfl)
   next => (simp only [la0, la1, la2]; rfl)
   next => rfl
   next => (intro w' hSw; have z := HZ.out w' hSw; clear hSw; go_simp; first | done | with_reducible rfl)
   simp only [Act.put, la3, la4, la5]
   refine Ord.go_one (i := 10) (by kernel_rfl) (by kernel_rfl) ?_
   apply Ord.go_done1
   next => (simp only [la0, la1, la2]; rfl)
   next => rfl
   intro K hK
   go_wp2_with fail
   have hg := Aid.Has.new vc [.int .i64 0, .int .i64 0, .int .i64 0, .string ⟨#[]⟩] 36
   have hgs := hb.size
   refine hK.out _ _ (hb.alloc hb.size _) (fun hHeld => ?_)
   clear hb
   have hb := hHeld
   generalize hX : vc.alloc _ = wx at *
   clear hX
   clear hK K
   try simp only [Act.put, la3, la4, la5]
   refine Ord.go_one (i := 11) (by kernel_rfl) (by kernel_rfl) ?_
   apply Ord.go_done1
   next => (simp only [la0, la1, la2]; rfl)
   next => rfl
   intro K hK
   refine wp_store_row 36 _ _ rfl (vc.heap.size) _ rfl rfl 36 _ hg (by kernel_rfl) rfl (by simp [Value.oneCell']) ?_
   refine hK.out _ _ (row_below hb hgs _) (fun hHeld => ?_)
   have hg := row_has (ys := [.int .i64 t1.k, .int .i64 t1.lo, .int .i64 t1.hi, .string t1.name]) hg
   clear hb
   have hb := hHeld
   generalize hX : World.setRow _ _ _ = ws at *
   clear hX
   clear hK K
   refine Ord.go_tail ?_; simp only [List.drop_succ_cons, List.drop_zero]
   go_wp2_with fail
   (try refine ⟨rfl, ?_⟩)
   unfold Aid.Kept
   refine ⟨vc.heap.size, ?_⟩
   all_goals (repeat' apply And.intro)
   all_goals first | exact hg | exact hgs | exact hb | (simp only [putL, Act.put, la3, la4, la5]; exact ⟨_, _, _, _, _, _, _, _, _, _, rfl⟩)
  ·
   apply Ord.go_done1
   next => (simp only [la0, la1, la2]; rfl)
   next => rfl
   intro K hK
   go_wp2_with fail
   have hg := Aid.Has.new wd0 [.int .i64 0, .int .i64 0, .int .i64 0, .string ⟨#[]⟩] 36
   have hgs := hb.size
   refine hK.out _ _ (hb.alloc hb.size _) (fun hHeld => ?_)
   clear hb
   have hb := hHeld
   generalize hX : wd0.alloc _ = wx at *
   clear hX
   clear hK K
   try simp only [Act.put, la3, la4, la5]
   refine Ord.go_one (i := 6) (by kernel_rfl) (by kernel_rfl) ?_
   apply Ord.go_done1
   next => (simp only [la0, la1, la2]; rfl)
   next => rfl
   intro K hK
   go_wp2_with fail
   refine (rinvoke_is f u a B cap x y p e t1 c1 _ HI.out HPP.out HUL.out HXA.out (HU.out.below (((Kx1.out).trans (hb.mono (Kx1.out).size))) hB) (Nat.le_trans hB (((Kx1.out).trans (hb.mono (Kx1.out).size))).size) (HSS.out.below (hb.mono (Nat.le_trans hB (Kx1.out).size)) (Nat.le_refl _)).up HLE.out).mono ?_; rintro _ vc ⟨rfl, hb'⟩; dsimp only
   refine hK.out _ _ (hb.trans (hb'.mono hb.size)) (fun hHeld => ?_)
   have hg := hg.below hb' hg.lt
   clear hb hb'
   have hb := hHeld
   clear hK K
   try simp only [Act.put, la3, la4, la5]
   apply Ord.go_light (i := 7) (by kernel_rfl)
   next => (simp only [la0, la1, la2]; rfl)
   next => rfl
   next => (intro w' hSw; have z := HZ.out w' hSw; clear hSw; go_simp; first | done | with_reducible rfl)
   simp only [Act.put, la3, la4, la5]
   apply Ord.go_light (i := 8) (by kernel_rfl)
   next => (simp only [la0, la1, la2]; rfl)
   next => rfl
   next => (intro w' hSw; have z := HZ.out w' hSw; clear hSw; go_simp; first | done | with_reducible rfl)
   simp only [Act.put, la3, la4, la5]
   apply Ord.go_light (i := 9) (by kernel_rfl)
   next => (simp only [la0, la1, la2]; rfl)
   next => rfl
   next => (intro w' hSw; have z := HZ.out w' hSw; clear hSw; go_simp; first | done | with_reducible rfl)
   simp only [Act.put, la3, la4, la5]
   refine Ord.go_one (i := 11) (by kernel_rfl) (by kernel_rfl) ?_
   apply Ord.go_done1
   next => (simp only [la0, la1, la2]; rfl)
   next => rfl
   intro K hK
   refine wp_store_row 36 _ _ rfl (wd0.heap.size) _ rfl rfl 36 _ hg (by kernel_rfl) rfl (by simp [Value.oneCell']) ?_
   refine hK.out _ _ (row_below hb hgs _) (fun hHeld => ?_)
   have hg := row_has (ys := [.int .i64 t1.k, .int .i64 t1.lo, .int .i64 t1.hi, .string t1.name]) hg
   clear hb
   have hb := hHeld
   generalize hX : World.setRow _ _ _ = ws at *
   clear hX
   clear hK K
   refine Ord.go_tail ?_; simp only [List.drop_succ_cons, List.drop_zero]
   go_wp2_with fail
   (try refine ⟨rfl, ?_⟩)
   unfold Aid.Kept
   refine ⟨wd0.heap.size, ?_⟩
   all_goals (repeat' apply And.intro)
   all_goals first | exact hg | exact hgs | exact hb | (simp only [putL, Act.put, la3, la4, la5]; exact ⟨_, _, _, _, _, _, _, _, _, _, rfl⟩)
 rintro e' a' w2 ⟨rfl, g2, v32, v33, v34, v35, v36, v37, v38, v31, v39, v40, rfl, hg2, hgl2, hb2⟩
 simp only [putL, Act.put, la3, la4, la5]
 have Nnew2 := Aid.hid hg2
 clear hg2
 have hbq2 := hb2
 have Kx2 := kb Kx1 hb2
 have Nu_2 := nb hb2 Nu_1
 have Np_2 := nb hb2 Np_1
 have Ns_2 := nb hb2 Ns_1
 clear xu0 lu xp0 xp1 lp xs0 xs1 xs2 xs3 xs4 xs5 ls ce0 ce1 ce2 ce3 ce4 leb
 clear hb2
 go_wp2_with fail
 go_ret
 exact ⟨rfl, Kx2.out⟩
set_option maxRecDepth 100000 in
set_option maxHeartbeats 4000000 in
theorem rstmt_6 (f : Nat) (u : List Dk) (a : Option Addr) (B cap : Nat) (x y : Int) (p : Pl) (s : St) (lo : Bool) (r : Int) (w : World) (hr : Ty.stmt p lo s = r) (hp : Pl.at u x y = some p) (hl : ULim u) (hX : ∀ q ∈ s.es, RExOK f u a B cap x y p q) (hS : ∀ b ∈ s.bs, RStsOK f u a B cap x y p b.l) (hu : UnitAt w B a u) (hB : B ≤ w.heap.size) (he : ExsAt (f + 1) w B s.eA s.es)
  (hlb : Rows w B 1 s.lA (s.ls.map Lb.cells)) (hlx : ∀ x ∈ s.ls, x.xs.length ≤ 9223372036854775807 ∧ Rows w B 1 x.A (x.xs.map fun n => [Value.int .i64 n])) (hbs : Rows w B 1 s.bA (s.bs.map Bk.cells) ∧ ∀ b ∈ s.bs, StsAt f w B b.A b.l) (hlim : StLim s) (hcap : s.es.length ≤ s.ec) (hsh : Rf.shaped s.k s.es.length s.bs.length (Rf.e0 s.es) s.ls = true) (hk : s.k = 6) :
  Calls Try.prog 63 #[.agg #[.slice a u.length cap], .agg #[.int .i64 x, .int .i64 y], .agg #[.int .i64 s.k, .int .i64 s.n, .string s.name, .slice s.eA s.es.length s.ec, .slice s.lA s.ls.length s.lc, .slice s.bA s.bs.length s.bc], .bool lo] w fun z w' => z = .returned (.int .i64 r) ∧ Below w.heap.size w w' := by
 have HU := Aid.hid hu; have HUL := Aid.hid hl; have HPP := Aid.hid hp; have HX := Aid.hid hX; have HS := Aid.hid hS; have HE := Aid.hid he; have HLB := Aid.hid hlb; have HLX := Aid.hid hlx; have HBS := Aid.hid hbs; have LIM := Aid.hid hlim; have HCP := Aid.hid hcap; have HSH := Aid.hid hsh
 obtain ⟨k1, k2, k3, k8, k11, k4, k5, -⟩ : nes s.k [1, 2, 3, 8, 11, 4, 5] := by simp [nes, hk]
 have k6 : (s.k == 6) = true := by simp [hk]
 have k7 : (s.k == 7) = false := by simp [hk]
 have k9 : (s.k == 9) = false := by simp [hk]
 have HKK := Aid.hid hk
 have HR := Aid.hid hr
 obtain ⟨W, hW, Nu, Np, Ns, K0⟩ := newh3 w [.slice a u.length cap] [.int .i64 x, .int .i64 y] [.int .i64 s.k, .int .i64 s.n, .string s.name, .slice s.eA s.es.length s.ec, .slice s.lA s.ls.length s.lc, .slice s.bA s.bs.length s.bc] 24 26 58
 clear hr hp hl hX hS hu he hlb hlx hbs hlim hcap hsh hk
 obtain ⟨xu0, lu⟩ := xc1 Nu
 obtain ⟨xp0, xp1, lp⟩ := xc2 Np
 obtain ⟨xs0, xs1, xs2, xs3, xs4, xs5, ls⟩ := xc6 Ns
 go_enter Try.func63, Try.ntmps63
 try simp only [List.append_eq, List.cons_append, List.nil_append]
 go_wp2_with fail
 (try clear hW)
 refine (rshaped_is f B s true _ HSH.out (HLB.out.below K0.out hB) (HE.out.below K0.out hB) (Nat.le_trans hB (K0.out).size) LIM.out.e LIM.out.b LIM.out.l).mono ?_; rintro _ w1 ⟨rfl, hb1⟩
 have Kx1 := kb K0 hb1
 have Nu_1 := nb hb1 Nu
 have Np_1 := nb hb1 Np
 have Ns_1 := nb hb1 Ns
 clear xu0 lu xp0 xp1 lp xs0 xs1 xs2 xs3 xs4 xs5 ls
 clear hb1
 obtain ⟨xu0, lu⟩ := xc1 Nu_1
 obtain ⟨xp0, xp1, lp⟩ := xc2 Np_1
 obtain ⟨xs0, xs1, xs2, xs3, xs4, xs5, ls⟩ := xc6 Ns_1
 obtain ⟨e, he⟩ : ∃ e, s.es = [e] := by
  have h := (Rf.shaped_formed HSH.out).1
  rw [HKK.out] at h
  exact List.length_eq_one_iff.1 (by simp [Ty.formed] at h; exact h.2.1)
 have HES := Aid.hid he
 clear he
 have HR2 : Hid (Ty.cases (Ty.hd (s.es.map (Ty.expr p))) s.ls (s.bs.map fun b => Ty.stmts p lo b.l) = r) := Aid.hid (by have h := HR.out; rw [Rf.stmt_good p lo s (Rf.shaped_formed HSH.out).1, HKK.out] at h; exact h)
 go_wp2_with fail
 refine (rcases_is f u a B cap x y p s e lo r _ HR2.out HES.out HX.out HS.out (HU.out.below (Kx1.out) hB) (Nat.le_trans hB (Kx1.out).size) (HE.out.below Kx1.out hB) (HLB.out.below Kx1.out hB) (fun x hx => ⟨(HLX.out x hx).1, (HLX.out x hx).2.below Kx1.out hB⟩) ⟨HBS.out.1.below Kx1.out hB, fun b hb => (HBS.out.2 b hb).below Kx1.out hB⟩ LIM.out).mono ?_; rintro _ w2 ⟨rfl, hb2⟩
 have Kx2 := kb Kx1 hb2
 have Nu_2 := nb hb2 Nu_1
 have Np_2 := nb hb2 Np_1
 have Ns_2 := nb hb2 Ns_1
 clear xu0 lu xp0 xp1 lp xs0 xs1 xs2 xs3 xs4 xs5 ls
 clear hb2
 go_wp2_with fail
 go_ret
 exact ⟨rfl, Kx2.out⟩
set_option maxRecDepth 100000 in
set_option maxHeartbeats 4000000 in
theorem rstmt_9 (f : Nat) (u : List Dk) (a : Option Addr) (B cap : Nat) (x y : Int) (p : Pl) (s : St) (lo : Bool) (r : Int) (w : World) (hr : Ty.stmt p lo s = r) (hp : Pl.at u x y = some p) (hl : ULim u) (hX : ∀ q ∈ s.es, RExOK f u a B cap x y p q) (hS : ∀ b ∈ s.bs, RStsOK f u a B cap x y p b.l) (hu : UnitAt w B a u) (hB : B ≤ w.heap.size) (he : ExsAt (f + 1) w B s.eA s.es)
  (hlb : Rows w B 1 s.lA (s.ls.map Lb.cells)) (hlx : ∀ x ∈ s.ls, x.xs.length ≤ 9223372036854775807 ∧ Rows w B 1 x.A (x.xs.map fun n => [Value.int .i64 n])) (hbs : Rows w B 1 s.bA (s.bs.map Bk.cells) ∧ ∀ b ∈ s.bs, StsAt f w B b.A b.l) (hlim : StLim s) (hcap : s.es.length ≤ s.ec) (hsh : Rf.shaped s.k s.es.length s.bs.length (Rf.e0 s.es) s.ls = true) (hk : s.k = 9) :
  Calls Try.prog 63 #[.agg #[.slice a u.length cap], .agg #[.int .i64 x, .int .i64 y], .agg #[.int .i64 s.k, .int .i64 s.n, .string s.name, .slice s.eA s.es.length s.ec, .slice s.lA s.ls.length s.lc, .slice s.bA s.bs.length s.bc], .bool lo] w fun z w' => z = .returned (.int .i64 r) ∧ Below w.heap.size w w' := by
 have HU := Aid.hid hu; have HUL := Aid.hid hl; have HPP := Aid.hid hp; have HX := Aid.hid hX; have HS := Aid.hid hS; have HE := Aid.hid he; have HLB := Aid.hid hlb; have HLX := Aid.hid hlx; have HBS := Aid.hid hbs; have LIM := Aid.hid hlim; have HCP := Aid.hid hcap; have HSH := Aid.hid hsh
 obtain ⟨k1, k2, k3, k8, k11, k4, k5, k6, k7, -⟩ : nes s.k [1, 2, 3, 8, 11, 4, 5, 6, 7] := by simp [nes, hk]
 have k9 : (s.k == 9) = true := by simp [hk]
 have HKK := Aid.hid hk
 have HR := Aid.hid hr
 obtain ⟨W, hW, Nu, Np, Ns, K0⟩ := newh3 w [.slice a u.length cap] [.int .i64 x, .int .i64 y] [.int .i64 s.k, .int .i64 s.n, .string s.name, .slice s.eA s.es.length s.ec, .slice s.lA s.ls.length s.lc, .slice s.bA s.bs.length s.bc] 24 26 58
 clear hr hp hl hX hS hu he hlb hlx hbs hlim hcap hsh hk
 obtain ⟨xu0, lu⟩ := xc1 Nu
 obtain ⟨xp0, xp1, lp⟩ := xc2 Np
 obtain ⟨xs0, xs1, xs2, xs3, xs4, xs5, ls⟩ := xc6 Ns
 go_enter Try.func63, Try.ntmps63
 try simp only [List.append_eq, List.cons_append, List.nil_append]
 go_wp2_with fail
 (try clear hW)
 refine (rshaped_is f B s true _ HSH.out (HLB.out.below K0.out hB) (HE.out.below K0.out hB) (Nat.le_trans hB (K0.out).size) LIM.out.e LIM.out.b LIM.out.l).mono ?_; rintro _ w1 ⟨rfl, hb1⟩
 have Kx1 := kb K0 hb1
 have Nu_1 := nb hb1 Nu
 have Np_1 := nb hb1 Np
 have Ns_1 := nb hb1 Ns
 clear xu0 lu xp0 xp1 lp xs0 xs1 xs2 xs3 xs4 xs5 ls
 clear hb1
 obtain ⟨xu0, lu⟩ := xc1 Nu_1
 obtain ⟨xp0, xp1, lp⟩ := xc2 Np_1
 obtain ⟨xs0, xs1, xs2, xs3, xs4, xs5, ls⟩ := xc6 Ns_1
 have HR2 : Hid (Ty.returned p (s.es.map (Ty.expr p)) = r) := Aid.hid (by have h := HR.out; rw [Rf.stmt_good p lo s (Rf.shaped_formed HSH.out).1, HKK.out] at h; exact h)
 go_wp2_with fail
 refine (rreturns_is f u a B cap x y p s r _ HR2.out HPP.out HUL.out HX.out (HU.out.below (Kx1.out) hB) (Nat.le_trans hB (Kx1.out).size) (HE.out.below Kx1.out hB)).mono ?_; rintro _ w2 ⟨rfl, hb2⟩
 have Kx2 := kb Kx1 hb2
 have Nu_2 := nb hb2 Nu_1
 have Np_2 := nb hb2 Np_1
 have Ns_2 := nb hb2 Ns_1
 clear xu0 lu xp0 xp1 lp xs0 xs1 xs2 xs3 xs4 xs5 ls
 clear hb2
 go_wp2_with fail
 go_ret
 exact ⟨rfl, Kx2.out⟩
set_option maxRecDepth 100000 in
set_option maxHeartbeats 4000000 in
theorem rstmt_10 (f : Nat) (u : List Dk) (a : Option Addr) (B cap : Nat) (x y : Int) (p : Pl) (s : St) (lo : Bool) (r : Int) (w : World) (hr : Ty.stmt p lo s = r) (hp : Pl.at u x y = some p) (hl : ULim u) (hX : ∀ q ∈ s.es, RExOK f u a B cap x y p q) (hS : ∀ b ∈ s.bs, RStsOK f u a B cap x y p b.l) (hu : UnitAt w B a u) (hB : B ≤ w.heap.size) (he : ExsAt (f + 1) w B s.eA s.es)
  (hlb : Rows w B 1 s.lA (s.ls.map Lb.cells)) (hlx : ∀ x ∈ s.ls, x.xs.length ≤ 9223372036854775807 ∧ Rows w B 1 x.A (x.xs.map fun n => [Value.int .i64 n])) (hbs : Rows w B 1 s.bA (s.bs.map Bk.cells) ∧ ∀ b ∈ s.bs, StsAt f w B b.A b.l) (hlim : StLim s) (hcap : s.es.length ≤ s.ec) (hsh : Rf.shaped s.k s.es.length s.bs.length (Rf.e0 s.es) s.ls = true) (hk : s.k = 10) :
  Calls Try.prog 63 #[.agg #[.slice a u.length cap], .agg #[.int .i64 x, .int .i64 y], .agg #[.int .i64 s.k, .int .i64 s.n, .string s.name, .slice s.eA s.es.length s.ec, .slice s.lA s.ls.length s.lc, .slice s.bA s.bs.length s.bc], .bool lo] w fun z w' => z = .returned (.int .i64 r) ∧ Below w.heap.size w w' := by
 have HU := Aid.hid hu; have HUL := Aid.hid hl; have HPP := Aid.hid hp; have HX := Aid.hid hX; have HS := Aid.hid hS; have HE := Aid.hid he; have HLB := Aid.hid hlb; have HLX := Aid.hid hlx; have HBS := Aid.hid hbs; have LIM := Aid.hid hlim; have HCP := Aid.hid hcap; have HSH := Aid.hid hsh
 have HR := Aid.hid hr
 have HKT := Aid.hid hk
 clear hk
 obtain ⟨W, hW, Nu, Np, Ns, K0⟩ := newh3 w [.slice a u.length cap] [.int .i64 x, .int .i64 y] [.int .i64 s.k, .int .i64 s.n, .string s.name, .slice s.eA s.es.length s.ec, .slice s.lA s.ls.length s.lc, .slice s.bA s.bs.length s.bc] 24 26 58
 clear hr hp hl hX hS hu he hlb hlx hbs hlim hcap hsh
 obtain ⟨xu0, lu⟩ := xc1 Nu
 obtain ⟨xp0, xp1, lp⟩ := xc2 Np
 obtain ⟨xs0, xs1, xs2, xs3, xs4, xs5, ls⟩ := xc6 Ns
 go_enter Try.func63, Try.ntmps63
 try simp only [List.append_eq, List.cons_append, List.nil_append]
 go_wp2_with fail
 (try clear hW)
 refine (rshaped_is f B s true _ HSH.out (HLB.out.below K0.out hB) (HE.out.below K0.out hB) (Nat.le_trans hB (K0.out).size) LIM.out.e LIM.out.b LIM.out.l).mono ?_; rintro _ w1 ⟨rfl, hb1⟩
 have Kx1 := kb K0 hb1
 have Nu_1 := nb hb1 Nu
 have Np_1 := nb hb1 Np
 have Ns_1 := nb hb1 Ns
 clear xu0 lu xp0 xp1 lp xs0 xs1 xs2 xs3 xs4 xs5 ls
 clear hb1
 obtain ⟨xu0, lu⟩ := xc1 Nu_1
 obtain ⟨xp0, xp1, lp⟩ := xc2 Np_1
 obtain ⟨xs0, xs1, xs2, xs3, xs4, xs5, ls⟩ := xc6 Ns_1
 have k1 : (s.k == 1) = false := by simp [HKT.out]
 have k2 : (s.k == 2) = false := by simp [HKT.out]
 have k3 : (s.k == 3) = false := by simp [HKT.out]
 have k8 : (s.k == 8) = false := by simp [HKT.out]
 have k11 : (s.k == 11) = false := by simp [HKT.out]
 have k4 : (s.k == 4) = false := by simp [HKT.out]
 have k5 : (s.k == 5) = false := by simp [HKT.out]
 have k6 : (s.k == 6) = false := by simp [HKT.out]
 have k7 : (s.k == 7) = false := by simp [HKT.out]
 have k9 : (s.k == 9) = false := by simp [HKT.out]
 have HR2 : Hid ((if lo = false then (14 : Int) else 0) = r) := Aid.hid (by have h := HR.out; rw [Rf.stmt_good p lo s (Rf.shaped_formed HSH.out).1, HKT.out] at h; exact h)
 cases lo
 ·
  obtain rfl : 14 = r := by simpa using HR2.out
  go_wp2_with fail
  go_ret
  exact ⟨rfl, Kx1.out⟩
 ·
  obtain rfl : 0 = r := by simpa using HR2.out
  go_wp2_with fail
  go_ret
  exact ⟨rfl, Kx1.out⟩
set_option maxRecDepth 100000 in
set_option maxHeartbeats 4000000 in
theorem rstmt_7 (f : Nat) (u : List Dk) (a : Option Addr) (B cap : Nat) (x y : Int) (p : Pl) (s : St) (lo : Bool) (r : Int) (w : World) (hr : Ty.stmt p lo s = r) (hp : Pl.at u x y = some p) (hl : ULim u) (hX : ∀ q ∈ s.es, RExOK f u a B cap x y p q) (hS : ∀ b ∈ s.bs, RStsOK f u a B cap x y p b.l) (hu : UnitAt w B a u) (hB : B ≤ w.heap.size) (he : ExsAt (f + 1) w B s.eA s.es)
  (hlb : Rows w B 1 s.lA (s.ls.map Lb.cells)) (hlx : ∀ x ∈ s.ls, x.xs.length ≤ 9223372036854775807 ∧ Rows w B 1 x.A (x.xs.map fun n => [Value.int .i64 n])) (hbs : Rows w B 1 s.bA (s.bs.map Bk.cells) ∧ ∀ b ∈ s.bs, StsAt f w B b.A b.l) (hlim : StLim s) (hcap : s.es.length ≤ s.ec) (hsh : Rf.shaped s.k s.es.length s.bs.length (Rf.e0 s.es) s.ls = true) (hk : s.k = 7) :
  Calls Try.prog 63 #[.agg #[.slice a u.length cap], .agg #[.int .i64 x, .int .i64 y], .agg #[.int .i64 s.k, .int .i64 s.n, .string s.name, .slice s.eA s.es.length s.ec, .slice s.lA s.ls.length s.lc, .slice s.bA s.bs.length s.bc], .bool lo] w fun z w' => z = .returned (.int .i64 r) ∧ Below w.heap.size w w' := by
 have HU := Aid.hid hu; have HUL := Aid.hid hl; have HPP := Aid.hid hp; have HX := Aid.hid hX; have HS := Aid.hid hS; have HE := Aid.hid he; have HLB := Aid.hid hlb; have HLX := Aid.hid hlx; have HBS := Aid.hid hbs; have LIM := Aid.hid hlim; have HCP := Aid.hid hcap; have HSH := Aid.hid hsh
 obtain ⟨k1, k2, k3, k8, k11, k4, k5, k6, -⟩ : nes s.k [1, 2, 3, 8, 11, 4, 5, 6] := by simp [nes, hk]
 have k7 : (s.k == 7) = true := by simp [hk]
 have k9 : (s.k == 9) = false := by simp [hk]
 have HKK := Aid.hid hk
 have HR := Aid.hid hr
 obtain ⟨W, hW, Nu, Np, Ns, K0⟩ := newh3 w [.slice a u.length cap] [.int .i64 x, .int .i64 y] [.int .i64 s.k, .int .i64 s.n, .string s.name, .slice s.eA s.es.length s.ec, .slice s.lA s.ls.length s.lc, .slice s.bA s.bs.length s.bc] 24 26 58
 clear hr hp hl hX hS hu he hlb hlx hbs hlim hcap hsh hk
 obtain ⟨xu0, lu⟩ := xc1 Nu
 obtain ⟨xp0, xp1, lp⟩ := xc2 Np
 obtain ⟨xs0, xs1, xs2, xs3, xs4, xs5, ls⟩ := xc6 Ns
 go_enter Try.func63, Try.ntmps63
 try simp only [List.append_eq, List.cons_append, List.nil_append]
 go_wp2_with fail
 (try clear hW)
 refine (rshaped_is f B s true _ HSH.out (HLB.out.below K0.out hB) (HE.out.below K0.out hB) (Nat.le_trans hB (K0.out).size) LIM.out.e LIM.out.b LIM.out.l).mono ?_; rintro _ w1 ⟨rfl, hb1⟩
 have Kx1 := kb K0 hb1
 have Nu_1 := nb hb1 Nu
 have Np_1 := nb hb1 Np
 have Ns_1 := nb hb1 Ns
 clear xu0 lu xp0 xp1 lp xs0 xs1 xs2 xs3 xs4 xs5 ls
 clear hb1
 obtain ⟨xu0, lu⟩ := xc1 Nu_1
 obtain ⟨xp0, xp1, lp⟩ := xc2 Np_1
 obtain ⟨xs0, xs1, xs2, xs3, xs4, xs5, ls⟩ := xc6 Ns_1
 obtain ⟨e, he⟩ : ∃ e, s.es = [e] := by
  have h := (Rf.shaped_formed HSH.out).1
  rw [HKK.out] at h
  exact List.length_eq_one_iff.1 (by simp [Ty.formed] at h; exact h.1)
 have HES := Aid.hid he
 obtain ⟨bk, hbk⟩ : ∃ b, s.bs = [b] := by
  have h := (Rf.shaped_formed HSH.out).1
  rw [HKK.out] at h
  exact List.length_eq_one_iff.1 (by simp [Ty.formed] at h; exact h.2.1)
 have HBE := Aid.hid hbk
 obtain ⟨c1, hc1⟩ : ∃ q, (Ty.same (Ty.expr p e) 2).2 = q := ⟨_, rfl⟩
 obtain ⟨c2, hc2⟩ : ∃ q, Ty.stmts p true bk.l = q := ⟨_, rfl⟩
 have HC1 := Aid.hid hc1; have HC2 := Aid.hid hc2
 have HR2 : Hid ((if c1 ≠ 0 then c1 else c2) = r) := Aid.hid (by have h := HR.out; rw [Rf.stmt_good p lo s (Rf.shaped_formed HSH.out).1, HKK.out] at h; rw [he, hbk] at h; simp only [List.map_cons, List.map_nil, Ty.hd, List.headD_cons, hc1, hc2] at h; exact h)
 have HXE := Aid.hid (HX.out e (by rw [he]; simp))
 have HBK0 : Hid (s.bs[0]? = some bk) := Aid.hid (by rw [hbk]; rfl)
 have hb1 : s.bs.length = 1 := by rw [hbk]; rfl
 have HB1 := Aid.hid hb1
 clear he hbk hc1 hc2 hb1
 obtain ⟨eb, off, hA, hebB, hc, hs⟩ := Ex.at1 (HE.out.below Kx1.out hB) (i := 0) (e := e) (by rw [HES.out]; rfl)
 have ce0 := hc 0 _ rfl
 have ce1 := hc 1 _ rfl
 have ce2 := hc 2 _ rfl
 have ce3 := hc 3 _ rfl
 have ce4 := hc 4 _ rfl
 simp only [Nat.add_zero, Nat.zero_mul] at ce0 ce1 ce2 ce3 ce4
 have leb : eb < w1.heap.size := Nat.lt_of_lt_of_le hebB (Nat.le_trans hB (Kx1.out).size)
 have HSS := Aid.hid hs
 have hl1 : s.es.length = 1 := by rw [HES.out]; rfl
 rw [hA, hl1] at xs3
 have HA := Aid.hid hA
 have hi01 : 0 < 1 := by decide
 clear hc hs hA hl1
 go_wp2_with fail
 have HZ := Aid.hid (fun (w' : World) (hSw : Below w1.heap.size w1 w') => (⟨kc hSw xu0 lu, kc hSw xp0 lp, kc hSw xp1 lp, kc hSw xs0 ls, kc hSw xs1 ls, kc hSw xs2 ls, kc hSw xs3 ls, kc hSw xs4 ls, kc hSw xs5 ls, kc hSw ce0 leb, kc hSw ce1 leb, kc hSw ce2 leb, kc hSw ce3 leb, kc hSw ce4 leb⟩ : _ ∧ _ ∧ _ ∧ _ ∧ _ ∧ _ ∧ _ ∧ _ ∧ _ ∧ _ ∧ _ ∧ _ ∧ _ ∧ _))
 have hb : Below w1.heap.size w1 w1.drew := (Below.refl _ _).drew
 refine Ord.wp_region_walk (fun w' => Below w1.heap.size w1 w') 7 [(true, 0), (true, 1), (true, 2), (true, 3), (true, 4), (true, 5), (false, 6)] (by kernel_rfl) (by kernel_rfl) (fun _ _ d _ _ h => by cases d <;> exact h) (hb) ?_
 clear hb
 have hb : Below w1.heap.size w1 w1.drew := (Below.refl _ _).drew
 generalize w1.drew = wd1 at *
 iterate 6
  apply Ord.walk_light
  next => (simp only [la0, la1, la2]; rfl)
  next => rfl
  next => (intro w' hSw; have z := HZ.out w' hSw; clear hSw; go_simp; first | done | with_reducible rfl)
  simp only [Act.put, la3, la4, la5]
 apply Ord.walk_heavy
 next => (simp only [la0, la1, la2]; rfl)
 next => rfl
 intro K hK
 go_wp2_with fail
 refine (rcond_is f u a B cap x y p e c1 _ HC1.out HXE.out (HU.out.below (((Kx1.out).trans (hb.mono (Kx1.out).size))) hB) (Nat.le_trans hB (((Kx1.out).trans (hb.mono (Kx1.out).size))).size) (HSS.out.below (hb.mono (Nat.le_trans hB (Kx1.out).size)) (Nat.le_refl _))).mono ?_; rintro _ v1_1 ⟨rfl, hb'⟩; dsimp only
 refine hK.out _ _ (hb.trans (hb'.mono hb.size)) (fun hHeld => ?_)
 clear hb hb'
 have hb := hHeld
 clear hK K
 try simp only [Act.put, la3, la4, la5]
 refine Ord.walk_tail ?_; simp only [List.drop_succ_cons, List.drop_zero]
 have hbx := hb
 clear hb HZ
 have Kx2 := kb Kx1 hbx
 have Nu_2 := nb hbx Nu_1
 have Np_2 := nb hbx Np_1
 have Ns_2 := nb hbx Ns_1
 clear xu0 lu xp0 xp1 lp xs0 xs1 xs2 xs3 xs4 xs5 ls ce0 ce1 ce2 ce3 ce4 leb
 clear hbx
 obtain ⟨xu0, lu⟩ := xc1 Nu_2
 obtain ⟨xp0, xp1, lp⟩ := xc2 Np_2
 have xs5 := Ns_2.out.cell 5 _ rfl
 have ls := Ns_2.out.lt
 by_cases hc0 : c1 = 0
 ·
  obtain rfl : c2 = r := by have h := HR2.out; simpa [hc0] using h
  have g0 : (c1 != 0) = false := by simp [hc0]
  clear hc0
  rw [HB1.out] at xs5
  obtain ⟨bb, bo, hbA, hbb, hbc⟩ := (HBS.out.1.below Kx2.out hB) (by have := (List.getElem?_eq_some_iff.1 HBK0.out).1; simp; omega)
  have cb := hbc 0 bk.cells (by simp [HBK0.out]) 0 _ rfl
  simp only [Nat.add_zero, Nat.mul_one, Nat.zero_mul] at cb
  have lbb : bb < v1_1.heap.size := Nat.lt_of_lt_of_le hbb (Nat.le_trans hB (Kx2.out).size)
  have HSB := Aid.hid (HBS.out.2 bk (List.mem_of_getElem? HBK0.out))
  have HSK := Aid.hid (HS.out bk (List.mem_of_getElem? HBK0.out))
  rw [hbA] at xs5
  clear hbc hbA
  go_wp2_with fail
  have HZ := Aid.hid (fun (w' : World) (hSw : Below v1_1.heap.size v1_1 w') => (⟨kc hSw xu0 lu, kc hSw xp0 lp, kc hSw xp1 lp, kc hSw xs5 ls, kc hSw cb lbb⟩ : _ ∧ _ ∧ _ ∧ _ ∧ _))
  have hb : Below v1_1.heap.size v1_1 v1_1.drew := (Below.refl _ _).drew
  refine Ord.wp_region_walk (fun w' => Below v1_1.heap.size v1_1 w') 7 [(true, 0), (true, 1), (true, 2), (true, 3), (true, 4), (true, 5), (false, 6)] (by kernel_rfl) (by kernel_rfl) (fun _ _ d _ _ h => by cases d <;> exact h) (hb) ?_
  clear hb
  have hb : Below v1_1.heap.size v1_1 v1_1.drew := (Below.refl _ _).drew
  generalize v1_1.drew = wd2 at *
  iterate 6
   apply Ord.walk_light
   next => (simp only [la0, la1, la2]; rfl)
   next => rfl
   next => (intro w' hSw; have z := HZ.out w' hSw; clear hSw; go_simp; first | done | with_reducible rfl)
   simp only [Act.put, la3, la4, la5]
  apply Ord.walk_heavy
  next => (simp only [la0, la1, la2]; rfl)
  next => rfl
  intro K hK
  go_wp2_with fail
  refine (HSK.out _ bk.A bk.c true c2 HC2.out (HU.out.below (((Kx2.out).trans (hb.mono (Kx2.out).size))) hB) (Nat.le_trans hB (((Kx2.out).trans (hb.mono (Kx2.out).size))).size) (HSB.out.below (((Kx2.out).trans (hb.mono (Kx2.out).size))) hB)).mono ?_; rintro _ v2_1 ⟨rfl, hb'⟩; dsimp only
  refine hK.out _ _ (hb.trans (hb'.mono hb.size)) (fun hHeld => ?_)
  clear hb hb'
  have hb := hHeld
  clear hK K
  try simp only [Act.put, la3, la4, la5]
  refine Ord.walk_tail ?_; simp only [List.drop_succ_cons, List.drop_zero]
  have hbx := hb
  clear hb HZ
  have Kx3 := kb Kx2 hbx
  have Nu_3 := nb hbx Nu_2
  have Np_3 := nb hbx Np_2
  have Ns_3 := nb hbx Ns_2
  clear xu0 lu xp0 xp1 lp xs5 ls cb lbb
  clear hbx
  go_wp2_with fail
  go_ret
  exact ⟨rfl, Kx3.out⟩
 ·
  have g0 : (c1 != 0) = true := by simpa using hc0
  obtain rfl : c1 = r := by have h := HR2.out; simpa [hc0] using h
  clear hc0
  go_wp2_with fail
  go_ret
  exact ⟨rfl, Kx2.out⟩
set_option maxRecDepth 100000 in
set_option maxHeartbeats 20000000 in
theorem rstmt_5 (f : Nat) (u : List Dk) (a : Option Addr) (B cap : Nat) (x y : Int) (p : Pl) (s : St) (lo : Bool) (r : Int) (w : World) (hr : Ty.stmt p lo s = r) (hp : Pl.at u x y = some p) (hl : ULim u) (hX : ∀ q ∈ s.es, RExOK f u a B cap x y p q) (hS : ∀ b ∈ s.bs, RStsOK f u a B cap x y p b.l) (hu : UnitAt w B a u) (hB : B ≤ w.heap.size) (he : ExsAt (f + 1) w B s.eA s.es)
  (hlb : Rows w B 1 s.lA (s.ls.map Lb.cells)) (hlx : ∀ x ∈ s.ls, x.xs.length ≤ 9223372036854775807 ∧ Rows w B 1 x.A (x.xs.map fun n => [Value.int .i64 n])) (hbs : Rows w B 1 s.bA (s.bs.map Bk.cells) ∧ ∀ b ∈ s.bs, StsAt f w B b.A b.l) (hlim : StLim s) (hcap : s.es.length ≤ s.ec) (hsh : Rf.shaped s.k s.es.length s.bs.length (Rf.e0 s.es) s.ls = true) (hk : s.k = 5) :
  Calls Try.prog 63 #[.agg #[.slice a u.length cap], .agg #[.int .i64 x, .int .i64 y], .agg #[.int .i64 s.k, .int .i64 s.n, .string s.name, .slice s.eA s.es.length s.ec, .slice s.lA s.ls.length s.lc, .slice s.bA s.bs.length s.bc], .bool lo] w fun z w' => z = .returned (.int .i64 r) ∧ Below w.heap.size w w' := by
 have HU := Aid.hid hu; have HUL := Aid.hid hl; have HPP := Aid.hid hp; have HX := Aid.hid hX; have HS := Aid.hid hS; have HE := Aid.hid he; have HLB := Aid.hid hlb; have HLX := Aid.hid hlx; have HBS := Aid.hid hbs; have LIM := Aid.hid hlim; have HCP := Aid.hid hcap; have HSH := Aid.hid hsh
 obtain ⟨k1, k2, k3, k8, k11, k4, -⟩ : nes s.k [1, 2, 3, 8, 11, 4] := by simp [nes, hk]
 have k5 : (s.k == 5) = true := by simp [hk]
 obtain ⟨k6, k7, k9, -⟩ : nes s.k [6, 7, 9] := by simp [nes, hk]
 have HKK := Aid.hid hk
 have HR := Aid.hid hr
 obtain ⟨W, hW, Nu, Np, Ns, K0⟩ := newh3 w [.slice a u.length cap] [.int .i64 x, .int .i64 y] [.int .i64 s.k, .int .i64 s.n, .string s.name, .slice s.eA s.es.length s.ec, .slice s.lA s.ls.length s.lc, .slice s.bA s.bs.length s.bc] 24 26 58
 clear hr hp hl hX hS hu he hlb hlx hbs hlim hcap hsh hk
 obtain ⟨xu0, lu⟩ := xc1 Nu
 obtain ⟨xp0, xp1, lp⟩ := xc2 Np
 obtain ⟨xs0, xs1, xs2, xs3, xs4, xs5, ls⟩ := xc6 Ns
 go_enter Try.func63, Try.ntmps63
 try simp only [List.append_eq, List.cons_append, List.nil_append]
 go_wp2_with fail
 (try clear hW)
 refine (rshaped_is f B s true _ HSH.out (HLB.out.below K0.out hB) (HE.out.below K0.out hB) (Nat.le_trans hB (K0.out).size) LIM.out.e LIM.out.b LIM.out.l).mono ?_; rintro _ w1 ⟨rfl, hb1⟩
 have Kx1 := kb K0 hb1
 have Nu_1 := nb hb1 Nu
 have Np_1 := nb hb1 Np
 have Ns_1 := nb hb1 Ns
 clear xu0 lu xp0 xp1 lp xs0 xs1 xs2 xs3 xs4 xs5 ls
 clear hb1
 obtain ⟨xu0, lu⟩ := xc1 Nu_1
 obtain ⟨xp0, xp1, lp⟩ := xc2 Np_1
 obtain ⟨xs0, xs1, xs2, xs3, xs4, xs5, ls⟩ := xc6 Ns_1
 have hbn : s.bs.length = s.es.length + 1 := by
  have h := (Rf.shaped_formed HSH.out).1
  rw [HKK.out] at h; simp [Ty.formed] at h; exact h.2.1
 have HBN := Aid.hid hbn
 clear hbn
 have HR2 : Hid (Ty.choice (s.es.map (Ty.expr p)) (s.bs.map fun b => Ty.stmts p lo b.l) = r) := Aid.hid (by have h := HR.out; rw [Rf.stmt_good p lo s (Rf.shaped_formed HSH.out).1, HKK.out] at h; exact h)
 have les := LIM.out.e
 have lbs := LIM.out.b
 go_wp2_with fail
 clear xu0 lu xp0 xp1 lp xs0 xs1 xs2 xs3 xs4 xs5 ls
 have KW := Aid.hid (Kx1.out)
 go_loopw [11] (fun vi wr => ∃ k : Nat, vi = .int .i64 k ∧ k ≤ s.es.length ∧ Hid (Ty.choice ((s.es.drop k).map (Ty.expr p)) ((s.bs.drop k).map fun b => Ty.stmts p lo b.l) = r) ∧ Hid (Below w1.heap.size w1 wr)) (fun vi _ => s.es.length - (intOf vi).toNat)
 case atStart => exact ⟨0, rfl, Nat.zero_le _, Aid.hid (by simpa using HR2.out), Aid.hid (Below.refl _ _)⟩
 case round =>
  obtain ⟨k, rfl, hkk, HF, HBB⟩ := hrel
  have Kd := Aid.hid (KW.out.trans (HBB.out.mono KW.out.size))
  have Mu := Aid.hid (Nu_1.out.below HBB.out Nu_1.out.lt)
  have Mp := Aid.hid (Np_1.out.below HBB.out Np_1.out.lt)
  have Ms := Aid.hid (Ns_1.out.below HBB.out Ns_1.out.lt)
  obtain ⟨xu0, lu⟩ := xc1 Mu
  obtain ⟨xp0, xp1, lp⟩ := xc2 Mp
  obtain ⟨xs0, xs1, xs2, xs3, xs4, xs5, ls⟩ := xc6 Ms
  obtain ⟨bk, hbk⟩ : ∃ bk, s.bs[k]? = some bk := ⟨_, List.getElem?_eq_getElem (by have := HBN.out; omega)⟩
  have HBK := Aid.hid hbk
  obtain ⟨c2, hc2⟩ : ∃ q, Ty.stmts p lo bk.l = q := ⟨_, rfl⟩
  have HC2 := Aid.hid hc2
  by_cases hkl : k < s.es.length
  ·
   obtain ⟨e, he⟩ : ∃ e, s.es[k]? = some e := ⟨_, List.getElem?_eq_getElem hkl⟩
   obtain ⟨c1, hc1⟩ : ∃ q, (Ty.same (Ty.expr p e) 2).2 = q := ⟨_, rfl⟩
   have HC1 := Aid.hid hc1
   have HF2 := Aid.hid (show (if c1 ≠ 0 then c1 else if c2 ≠ 0 then c2 else Ty.choice ((s.es.drop (k + 1)).map (Ty.expr p)) ((s.bs.drop (k + 1)).map fun b => Ty.stmts p lo b.l)) = r by
    have h := HF.out
    rw [tdrop_at he, tdrop_at hbk, List.map_cons, List.map_cons, Ty.choice_cons, hc1, hc2] at h; exact h)
   have HXE := Aid.hid (HX.out e (List.mem_of_getElem? he))
   obtain ⟨eb, off, hA, hebB, hc, hs⟩ := Ex.at1 (HE.out.below Kd.out hB) he
   have ce0 := hc 0 _ rfl
   have ce1 := hc 1 _ rfl
   have ce2 := hc 2 _ rfl
   have ce3 := hc 3 _ rfl
   have ce4 := hc 4 _ rfl
   simp only [Nat.add_zero] at ce0
   have leb : eb < wr.heap.size := Nat.lt_of_lt_of_le hebB (Nat.le_trans hB (Kd.out).size)
   have HSS := Aid.hid hs
   rw [hA] at xs3
   have HA := Aid.hid hA
   have hki : (k : Int) < (s.es.length : Int) := by omega
   clear hc hs hA he hc1 hc2 hbk
   go_wp2_with fail
   have HZ := Aid.hid (fun (w' : World) (hSw : Below wr.heap.size wr w') => (⟨kc hSw xu0 lu, kc hSw xp0 lp, kc hSw xp1 lp, kc hSw xs0 ls, kc hSw xs1 ls, kc hSw xs2 ls, kc hSw xs3 ls, kc hSw xs4 ls, kc hSw xs5 ls, kc hSw ce0 leb, kc hSw ce1 leb, kc hSw ce2 leb, kc hSw ce3 leb, kc hSw ce4 leb⟩ : _ ∧ _ ∧ _ ∧ _ ∧ _ ∧ _ ∧ _ ∧ _ ∧ _ ∧ _ ∧ _ ∧ _ ∧ _ ∧ _))
   have hb : Below wr.heap.size wr wr.drew := (Below.refl _ _).drew
   refine Ord.wp_region_walk (fun w' => Below wr.heap.size wr w') 8 [(true, 0), (true, 1), (true, 2), (true, 3), (true, 4), (true, 5), (true, 6), (false, 7)] (by kernel_rfl) (by kernel_rfl) (fun _ _ d _ _ h => by cases d <;> exact h) (hb) ?_
   clear hb
   have hb : Below wr.heap.size wr wr.drew := (Below.refl _ _).drew
   generalize wr.drew = wd1 at *
   iterate 7
    apply Ord.walk_light
    next => (simp only [la0, la1, la2]; rfl)
    next => rfl
    next => (intro w' hSw; have z := HZ.out w' hSw; clear hSw; go_simp; first | done | with_reducible rfl)
    simp only [Act.put, la3, la4, la5]
   apply Ord.walk_heavy
   next => (simp only [la0, la1, la2]; rfl)
   next => rfl
   intro K hK
   go_wp2_with fail
   refine (rcond_is f u a B cap x y p e c1 _ HC1.out HXE.out (HU.out.below (((Kd.out).trans (hb.mono (Kd.out).size))) hB) (Nat.le_trans hB (((Kd.out).trans (hb.mono (Kd.out).size))).size) (HSS.out.below (hb.mono (Nat.le_trans hB (Kd.out).size)) (Nat.le_refl _))).mono ?_; rintro _ v1_1 ⟨rfl, hb'⟩; dsimp only
   refine hK.out _ _ (hb.trans (hb'.mono hb.size)) (fun hHeld => ?_)
   clear hb hb'
   have hb := hHeld
   clear hK K
   try simp only [Act.put, la3, la4, la5]
   refine Ord.walk_tail ?_; simp only [List.drop_succ_cons, List.drop_zero]
   have hbx := hb
   clear hb HZ
   have Kx2 := kb Kd hbx
   have Mu_2 := nb hbx Mu
   have Mp_2 := nb hbx Mp
   have Ms_2 := nb hbx Ms
   clear xu0 lu xp0 xp1 lp xs0 xs1 xs2 xs3 xs4 xs5 ls ce0 ce1 ce2 ce3 ce4 leb
   clear hbx
   obtain ⟨xu0, lu⟩ := xc1 Mu_2
   obtain ⟨xp0, xp1, lp⟩ := xc2 Mp_2
   have xs3 := Ms_2.out.cell 3 _ rfl
   have xs5 := Ms_2.out.cell 5 _ rfl
   have ls := Ms_2.out.lt
   have HH1 := Aid.hid hHeld
   clear hHeld
   by_cases hc0 : c1 = 0
   ·
    have g0 : (c1 != 0) = false := by simp [hc0]
    have HF3 := Aid.hid (show (if c2 ≠ 0 then c2 else Ty.choice ((s.es.drop (k + 1)).map (Ty.expr p)) ((s.bs.drop (k + 1)).map fun b => Ty.stmts p lo b.l)) = r by have h := HF2.out; simpa [hc0] using h)
    clear hc0
    have hkb : (k : Int) < (s.bs.length : Int) := by have := HBN.out; omega
    obtain ⟨bb, bo, hbA, hbb, hbc⟩ := (HBS.out.1.below Kx2.out hB) (by have := (List.getElem?_eq_some_iff.1 HBK.out).1; simp; omega)
    have cb := hbc k bk.cells (by simp [HBK.out]) 0 _ rfl
    simp only [Nat.add_zero, Nat.mul_one, Nat.zero_mul] at cb
    have lbb : bb < v1_1.heap.size := Nat.lt_of_lt_of_le hbb (Nat.le_trans hB (Kx2.out).size)
    have HSB := Aid.hid (HBS.out.2 bk (List.mem_of_getElem? HBK.out))
    have HSK := Aid.hid (HS.out bk (List.mem_of_getElem? HBK.out))
    rw [hbA] at xs5
    clear hbc hbA
    go_wp2_with fail
    have HZ := Aid.hid (fun (w' : World) (hSw : Below v1_1.heap.size v1_1 w') => (⟨kc hSw xu0 lu, kc hSw xp0 lp, kc hSw xp1 lp, kc hSw xs3 ls, kc hSw xs5 ls, kc hSw cb lbb⟩ : _ ∧ _ ∧ _ ∧ _ ∧ _ ∧ _))
    have hb : Below v1_1.heap.size v1_1 v1_1.drew := (Below.refl _ _).drew
    refine Ord.wp_region_walk (fun w' => Below v1_1.heap.size v1_1 w') 9 [(true, 0), (true, 1), (true, 2), (true, 3), (true, 4), (true, 5), (true, 6), (true, 7), (false, 8)] (by kernel_rfl) (by kernel_rfl) (fun _ _ d _ _ h => by cases d <;> exact h) (hb) ?_
    clear hb
    have hb : Below v1_1.heap.size v1_1 v1_1.drew := (Below.refl _ _).drew
    generalize v1_1.drew = wd2 at *
    iterate 8
     apply Ord.walk_light
     next => (simp only [la0, la1, la2]; rfl)
     next => rfl
     next => (intro w' hSw; have z := HZ.out w' hSw; clear hSw; go_simp; first | done | with_reducible rfl)
     simp only [Act.put, la3, la4, la5]
    apply Ord.walk_heavy
    next => (simp only [la0, la1, la2]; rfl)
    next => rfl
    intro K hK
    go_wp2_with fail
    refine (HSK.out _ bk.A bk.c lo c2 HC2.out (HU.out.below (((Kx2.out).trans (hb.mono (Kx2.out).size))) hB) (Nat.le_trans hB (((Kx2.out).trans (hb.mono (Kx2.out).size))).size) (HSB.out.below (((Kx2.out).trans (hb.mono (Kx2.out).size))) hB)).mono ?_; rintro _ v2_1 ⟨rfl, hb'⟩; dsimp only
    refine hK.out _ _ (hb.trans (hb'.mono hb.size)) (fun hHeld => ?_)
    clear hb hb'
    have hb := hHeld
    clear hK K
    try simp only [Act.put, la3, la4, la5]
    refine Ord.walk_tail ?_; simp only [List.drop_succ_cons, List.drop_zero]
    have hbx := hb
    clear hb HZ
    have Kx3 := kb Kx2 hbx
    have Mu_3 := nb hbx Mu_2
    have Mp_3 := nb hbx Mp_2
    have Ms_3 := nb hbx Ms_2
    clear xu0 lu xp0 xp1 lp xs3 xs5 ls cb lbb
    clear hbx
    by_cases hc0 : c2 = 0
    ·
     have g1 : (c2 != 0) = false := by simp [hc0]
     have HF4 := Aid.hid (show Ty.choice ((s.es.drop (k + 1)).map (Ty.expr p)) ((s.bs.drop (k + 1)).map fun b => Ty.stmts p lo b.l) = r by have h := HF3.out; simpa [hc0] using h)
     have HB3 := Aid.hid ((HBB.out.trans (HH1.out.mono HBB.out.size)).trans (hHeld.mono (Nat.le_trans HBB.out.size HH1.out.size)))
     clear hc0
     go_wp2_with fail
     go_roundw
     case rel => exact ⟨k + 1, by go_num, by omega, HF4, HB3⟩
     case measure => simp [intOf]; omega
    ·
     have g1 : (c2 != 0) = true := by simpa using hc0
     obtain rfl : c2 = r := by have h := HF3.out; simpa [hc0] using h
     clear hc0
     go_wp2_with fail
     go_ret
     exact ⟨rfl, Kx3.out⟩
   ·
    have g0 : (c1 != 0) = true := by simpa using hc0
    obtain rfl : c1 = r := by have h := HF2.out; simpa [hc0] using h
    clear hc0
    go_wp2_with fail
    go_ret
    exact ⟨rfl, Kx2.out⟩
  ·
   have hek : k = s.es.length := by omega
   obtain rfl : c2 = r := by
    have h := HF.out
    rw [List.drop_eq_nil_of_le (by omega), tdrop_at hbk, List.map_cons, List.map_nil, hc2] at h; exact h
   have hkb : (s.es.length : Int) < (s.bs.length : Int) := by have := HBN.out; omega
   subst hek
   have hkn : s.es.length < s.bs.length := by have := HBN.out; omega
   clear hbk hc2
   obtain ⟨bb, bo, hbA, hbb, hbc⟩ := (HBS.out.1.below Kd.out hB) (by have := (List.getElem?_eq_some_iff.1 HBK.out).1; simp; omega)
   have cb := hbc s.es.length bk.cells (by simp [HBK.out]) 0 _ rfl
   simp only [Nat.add_zero, Nat.mul_one, Nat.zero_mul] at cb
   have lbb : bb < wr.heap.size := Nat.lt_of_lt_of_le hbb (Nat.le_trans hB (Kd.out).size)
   have HSB := Aid.hid (HBS.out.2 bk (List.mem_of_getElem? HBK.out))
   have HSK := Aid.hid (HS.out bk (List.mem_of_getElem? HBK.out))
   rw [hbA] at xs5
   clear hbc hbA
   go_wp2_with fail
   have HZ := Aid.hid (fun (w' : World) (hSw : Below wr.heap.size wr w') => (⟨kc hSw xu0 lu, kc hSw xp0 lp, kc hSw xp1 lp, kc hSw xs0 ls, kc hSw xs1 ls, kc hSw xs2 ls, kc hSw xs3 ls, kc hSw xs4 ls, kc hSw xs5 ls, kc hSw cb lbb⟩ : _ ∧ _ ∧ _ ∧ _ ∧ _ ∧ _ ∧ _ ∧ _ ∧ _ ∧ _))
   have hb : Below wr.heap.size wr wr.drew := (Below.refl _ _).drew
   refine Ord.wp_region_walk (fun w' => Below wr.heap.size wr w') 11 [(true, 0), (true, 1), (true, 2), (true, 3), (true, 4), (true, 5), (true, 6), (true, 7), (true, 8), (true, 9), (false, 10)] (by kernel_rfl) (by kernel_rfl) (fun _ _ d _ _ h => by cases d <;> exact h) (hb) ?_
   clear hb
   have hb : Below wr.heap.size wr wr.drew := (Below.refl _ _).drew
   generalize wr.drew = wd1 at *
   iterate 10
    apply Ord.walk_light
    next => (simp only [la0, la1, la2]; rfl)
    next => rfl
    next => (intro w' hSw; have z := HZ.out w' hSw; clear hSw; go_simp; first | done | with_reducible rfl)
    simp only [Act.put, la3, la4, la5]
   apply Ord.walk_heavy
   next => (simp only [la0, la1, la2]; rfl)
   next => rfl
   intro K hK
   go_wp2_with fail
   refine (HSK.out _ bk.A bk.c lo c2 HC2.out (HU.out.below (((Kd.out).trans (hb.mono (Kd.out).size))) hB) (Nat.le_trans hB (((Kd.out).trans (hb.mono (Kd.out).size))).size) (HSB.out.below (((Kd.out).trans (hb.mono (Kd.out).size))) hB)).mono ?_; rintro _ v1_1 ⟨rfl, hb'⟩; dsimp only
   refine hK.out _ _ (hb.trans (hb'.mono hb.size)) (fun hHeld => ?_)
   clear hb hb'
   have hb := hHeld
   clear hK K
   try simp only [Act.put, la3, la4, la5]
   refine Ord.walk_tail ?_; simp only [List.drop_succ_cons, List.drop_zero]
   have hbx := hb
   clear hb HZ
   have Kx2 := kb Kd hbx
   have Mu_2 := nb hbx Mu
   have Mp_2 := nb hbx Mp
   have Ms_2 := nb hbx Ms
   clear xu0 lu xp0 xp1 lp xs0 xs1 xs2 xs3 xs4 xs5 ls cb lbb
   clear hbx
   go_wp2_with fail
   go_ret
   exact ⟨rfl, Kx2.out⟩
end Go.Proofs.Ytmhdcehpddbjaaa
/- The document's list and Stmts, as walks. -/
namespace Go.Proofs.Ytmhdcehpddbjaaa
open Go.RowKit

/-- A statement's code is the document's. -/
def RStOK (f : Nat) (u : List Dk) (a : Option Addr) (B cap : Nat) (x y : Int) (p : Pl) (s : St) : Prop :=
 ∀ (w : World) (lo : Bool) (r : Int), Ty.stmt p lo s = r → UnitAt w B a u → B ≤ w.heap.size → StAt f w B s →
  Calls Try.prog 63 #[.agg #[.slice a u.length cap], .agg #[.int .i64 x, .int .i64 y], .agg #[.int .i64 s.k, .int .i64 s.n, .string s.name, .slice s.eA s.es.length s.ec, .slice s.lA s.ls.length s.lc, .slice s.bA s.bs.length s.bc], .bool lo] w fun z w' => z = .returned (.int .i64 r) ∧ Below w.heap.size w w'
theorem flat_mem {ls : List Lb} {x : Lb} (h : x ∈ ls) : x.xs.length ≤ (ls.map (·.xs)).flatten.length := by
 induction ls with
 | nil => cases h
 | cons a l ih =>
  simp only [List.map_cons, List.flatten_cons, List.length_append]
  rcases List.mem_cons.1 h with rfl | h
  ·
   omega
  ·
   have := ih h; omega
/-- No slice is longer than what it has room for. -/
def StsCap : Nat → List St → Prop
 | 0, _ => True
 | f + 1, l => ∀ s ∈ l, s.es.length ≤ s.ec ∧ (∀ k, ExCap k s.es) ∧ (∀ k, ExLim k s.es) ∧ ∀ b ∈ s.bs, StsCap f b.l
set_option maxRecDepth 100000 in
set_option maxHeartbeats 4000000 in
theorem rlist_step (f : Nat) (u : List Dk) (a : Option Addr) (B cap : Nat) (x y : Int) (p : Pl) (l : List St) (A : Option Addr) (c : Nat) (lo : Bool) (r : Int) (w : World) (hr : Ty.stmts p lo l = r) (hst : ∀ s ∈ l, RStOK f u a B cap x y p s) (hu : UnitAt w B a u) (hB : B ≤ w.heap.size) (he : StsAt (f + 1) w B A l) :
  Calls Try.prog 42 #[.agg #[.slice a u.length cap], .agg #[.int .i64 x, .int .i64 y], .slice A l.length c, .bool lo] w fun z w' => z = .returned (.int .i64 r) ∧ Below w.heap.size w w' := by
 have HU := Aid.hid hu; have HST := Aid.hid hst; have HE := Aid.hid he; have HR := Aid.hid hr
 have hll := he.1
 obtain ⟨W, hW, Nu, Np, K0⟩ := newh2 w [.slice a u.length cap] [.int .i64 x, .int .i64 y] 24 26
 clear hu hst he hr
 obtain ⟨xu0, lu⟩ := xc1 Nu
 obtain ⟨xp0, xp1, lp⟩ := xc2 Np
 go_enter Try.func42, Try.ntmps42
 try simp only [List.append_eq, List.cons_append, List.nil_append]
 go_wp2_with fail
 (try clear hW)
 clear xu0 lu xp0 xp1 lp
 have KW := Aid.hid (K0.out)
 go_loopw [9] (fun vi wr => ∃ k : Nat, vi = .int .i64 k ∧ k ≤ l.length ∧ Hid (Ty.stmts p lo (l.drop k) = r) ∧ Hid (Below W.heap.size W wr)) (fun vi _ => l.length - (intOf vi).toNat)
 case atStart => exact ⟨0, rfl, Nat.zero_le _, Aid.hid (by simpa using HR.out), Aid.hid (Below.refl _ _)⟩
 case round =>
  obtain ⟨k, rfl, hkk, HF, HBB⟩ := hrel
  have Kd := Aid.hid (KW.out.trans (HBB.out.mono KW.out.size))
  have Mu := Aid.hid (Nu.out.below HBB.out Nu.out.lt)
  have Mp := Aid.hid (Np.out.below HBB.out Np.out.lt)
  by_cases hkl : k < l.length
  ·
   obtain ⟨s, hs⟩ : ∃ s, l[k]? = some s := ⟨_, List.getElem?_eq_getElem hkl⟩
   have hmem := List.mem_of_getElem? hs
   obtain ⟨sb, so, hA, hsb, hsc⟩ := (HE.out.2.1.below Kd.out hB) (by simp; omega)
   have ce0 := hsc k s.cells (by simp [hs]) 0 _ rfl
   have ce1 := hsc k s.cells (by simp [hs]) 1 _ rfl
   have ce2 := hsc k s.cells (by simp [hs]) 2 _ rfl
   have ce3 := hsc k s.cells (by simp [hs]) 3 _ rfl
   have ce4 := hsc k s.cells (by simp [hs]) 4 _ rfl
   have ce5 := hsc k s.cells (by simp [hs]) 5 _ rfl
   simp only [Nat.add_zero] at ce0
   have lsb : sb < wr.heap.size := Nat.lt_of_lt_of_le hsb (Nat.le_trans hB Kd.out.size)
   have HS1 := Aid.hid (HST.out s hmem)
   have HSA := Aid.hid (HE.out.at hmem)
   obtain ⟨c1, hc1⟩ : ∃ q, Ty.stmt p lo s = q := ⟨_, rfl⟩
   have HC1 := Aid.hid hc1
   have HF2 := Aid.hid (show (if c1 ≠ 0 then c1 else Ty.stmts p lo (l.drop (k + 1))) = r by have h := HF.out; rw [tdrop_at hs, Ty.stmts_cons, hc1] at h; exact h)
   have hki : (k : Int) < (l.length : Int) := by omega
   subst hA
   clear hs hmem hsc hc1
   obtain ⟨xu0, lu⟩ := xc1 Mu
   obtain ⟨xp0, xp1, lp⟩ := xc2 Mp
   go_wp2_with fail
   have HZ := Aid.hid (fun (w' : World) (hSw : Below wr.heap.size wr w') => (⟨kc hSw xu0 lu, kc hSw xp0 lp, kc hSw xp1 lp, kc hSw ce0 lsb, kc hSw ce1 lsb, kc hSw ce2 lsb, kc hSw ce3 lsb, kc hSw ce4 lsb, kc hSw ce5 lsb⟩ : _ ∧ _ ∧ _ ∧ _ ∧ _ ∧ _ ∧ _ ∧ _ ∧ _))
   have hb : Below wr.heap.size wr wr.drew := (Below.refl _ _).drew
   refine Ord.wp_region_walk (fun w' => Below wr.heap.size wr w') 8 [(true, 0), (true, 1), (true, 2), (true, 3), (true, 4), (true, 5), (true, 6), (false, 7)] (by kernel_rfl) (by kernel_rfl) (fun _ _ d _ _ h => by cases d <;> exact h) (hb) ?_
   clear hb
   have hb : Below wr.heap.size wr wr.drew := (Below.refl _ _).drew
   generalize wr.drew = wd0 at *
   iterate 7
    apply Ord.walk_light
    next => (simp only [la0, la1, la2]; rfl)
    next => rfl
    next => (intro w' hSw; have z := HZ.out w' hSw; clear hSw; go_simp; first | done | with_reducible rfl)
    simp only [Act.put, la3, la4, la5]
   apply Ord.walk_heavy
   next => (simp only [la0, la1, la2]; rfl)
   next => rfl
   intro K hK
   go_wp2_with fail
   refine (HS1.out _ lo c1 HC1.out (HU.out.below (((Kd.out).trans (hb.mono (Kd.out).size))) hB) (Nat.le_trans hB (((Kd.out).trans (hb.mono (Kd.out).size))).size) (HSA.out.below (((Kd.out).trans (hb.mono (Kd.out).size))) hB)).mono ?_; rintro _ v0_1 ⟨rfl, hb'⟩; dsimp only
   refine hK.out _ _ (hb.trans (hb'.mono hb.size)) (fun hHeld => ?_)
   clear hb hb'
   have hb := hHeld
   clear hK K
   try simp only [Act.put, la3, la4, la5]
   refine Ord.walk_tail ?_; simp only [List.drop_succ_cons, List.drop_zero]
   have hbx := hb
   clear hb HZ
   have Kx1 := kb Kd hbx
   have Mu_1 := nb hbx Mu
   have Mp_1 := nb hbx Mp
   clear xu0 lu xp0 xp1 lp ce0 ce1 ce2 ce3 ce4 ce5 lsb
   clear hbx
   by_cases hc0 : c1 = 0
   ·
    have g0 : (c1 != 0) = false := by simp [hc0]
    have HF3 := Aid.hid (show Ty.stmts p lo (l.drop (k + 1)) = r by have h := HF2.out; simpa [hc0] using h)
    have HB3 := Aid.hid (HBB.out.trans (hHeld.mono HBB.out.size))
    clear hc0
    go_wp2_with fail
    go_roundw
    case rel => exact ⟨k + 1, by go_num, by omega, HF3, HB3⟩
    case measure => simp [intOf]; omega
   ·
    have g0 : (c1 != 0) = true := by simpa using hc0
    obtain rfl : c1 = r := by have h := HF2.out; simpa [hc0] using h
    clear hc0
    go_wp2_with fail
    go_ret
    exact ⟨rfl, Kx1.out⟩
  ·
   obtain rfl : 0 = r := by have h := HF.out; rw [List.drop_eq_nil_of_le (by omega), Ty.stmts_nil] at h; exact h
   go_wp2_with fail
   go_ret
   exact ⟨rfl, Kd.out⟩
theorem rstmt_step (f : Nat) (u : List Dk) (a : Option Addr) (B cap : Nat) (x y : Int) (p : Pl) (hp : Pl.at u x y = some p) (hl : ULim u) (s : St) (hX : ∀ q ∈ s.es, RExOK f u a B cap x y p q) (hxx : ∀ e ∈ s.es, ∀ q ∈ e.args, RExOK f u a B cap x y p q) (hlx4 : ∀ e ∈ s.es, e.args.length ≤ 1000000000) (hS : ∀ b ∈ s.bs, RStsOK f u a B cap x y p b.l) (hlim : StLim s) (hcap : s.es.length ≤ s.ec) : RStOK f u a B cap x y p s :=
 fun w lo r hr hu hB hs => by
 cases hsh : Rf.shaped s.k s.es.length s.bs.length (Rf.e0 s.es) s.ls with
 | false => exact rstmt_bad f u a B cap x y p s lo r w hr hp hl hX hS hu hB hs.ex hs.lr (fun x hx => ⟨Nat.le_trans (flat_mem hx) (Nat.le_trans hlim.x (by decide)), hs.le x hx⟩) ⟨hs.br, hs.ba⟩ hlim hcap hsh
 | true =>
  by_cases h1 : s.k = 1
  ·
   exact rstmt_1 f u a B cap x y p s lo r w hr hp hl hX hS hu hB hs.ex hs.lr (fun x hx => ⟨Nat.le_trans (flat_mem hx) (Nat.le_trans hlim.x (by decide)), hs.le x hx⟩) ⟨hs.br, hs.ba⟩ hlim hcap hsh h1
  by_cases h2 : s.k = 2
  ·
   exact rstmt_2 f u a B cap x y p s lo r w hr hp hl hX hS hu hB hs.ex hs.lr (fun x hx => ⟨Nat.le_trans (flat_mem hx) (Nat.le_trans hlim.x (by decide)), hs.le x hx⟩) ⟨hs.br, hs.ba⟩ hlim hcap hsh h2
  by_cases h3 : s.k = 3
  ·
   exact rstmt_3 f u a B cap x y p s lo r w hr hp hl hX hS hu hB hs.ex hs.lr (fun x hx => ⟨Nat.le_trans (flat_mem hx) (Nat.le_trans hlim.x (by decide)), hs.le x hx⟩) ⟨hs.br, hs.ba⟩ hlim hcap hsh h3
  by_cases h4 : s.k = 4
  ·
   exact rstmt_4 f u a B cap x y p s lo r w hr hp hl hX hS hu hB hs.ex hs.lr (fun x hx => ⟨Nat.le_trans (flat_mem hx) (Nat.le_trans hlim.x (by decide)), hs.le x hx⟩) ⟨hs.br, hs.ba⟩ hlim hcap hsh h4 hlx4 hxx
  by_cases h5 : s.k = 5
  ·
   exact rstmt_5 f u a B cap x y p s lo r w hr hp hl hX hS hu hB hs.ex hs.lr (fun x hx => ⟨Nat.le_trans (flat_mem hx) (Nat.le_trans hlim.x (by decide)), hs.le x hx⟩) ⟨hs.br, hs.ba⟩ hlim hcap hsh h5
  by_cases h6 : s.k = 6
  ·
   exact rstmt_6 f u a B cap x y p s lo r w hr hp hl hX hS hu hB hs.ex hs.lr (fun x hx => ⟨Nat.le_trans (flat_mem hx) (Nat.le_trans hlim.x (by decide)), hs.le x hx⟩) ⟨hs.br, hs.ba⟩ hlim hcap hsh h6
  by_cases h7 : s.k = 7
  ·
   exact rstmt_7 f u a B cap x y p s lo r w hr hp hl hX hS hu hB hs.ex hs.lr (fun x hx => ⟨Nat.le_trans (flat_mem hx) (Nat.le_trans hlim.x (by decide)), hs.le x hx⟩) ⟨hs.br, hs.ba⟩ hlim hcap hsh h7
  by_cases h8 : s.k = 8
  ·
   exact rstmt_8 f u a B cap x y p s lo r w hr hp hl hX hS hu hB hs.ex hs.lr (fun x hx => ⟨Nat.le_trans (flat_mem hx) (Nat.le_trans hlim.x (by decide)), hs.le x hx⟩) ⟨hs.br, hs.ba⟩ hlim hcap hsh h8
  by_cases h9 : s.k = 9
  ·
   exact rstmt_9 f u a B cap x y p s lo r w hr hp hl hX hS hu hB hs.ex hs.lr (fun x hx => ⟨Nat.le_trans (flat_mem hx) (Nat.le_trans hlim.x (by decide)), hs.le x hx⟩) ⟨hs.br, hs.ba⟩ hlim hcap hsh h9
  by_cases h10 : s.k = 10
  ·
   exact rstmt_10 f u a B cap x y p s lo r w hr hp hl hX hS hu hB hs.ex hs.lr (fun x hx => ⟨Nat.le_trans (flat_mem hx) (Nat.le_trans hlim.x (by decide)), hs.le x hx⟩) ⟨hs.br, hs.ba⟩ hlim hcap hsh h10
  by_cases h11 : s.k = 11
  ·
   exact rstmt_11 f u a B cap x y p s lo r w hr hp hl hX hS hu hB hs.ex hs.lr (fun x hx => ⟨Nat.le_trans (flat_mem hx) (Nat.le_trans hlim.x (by decide)), hs.le x hx⟩) ⟨hs.br, hs.ba⟩ hlim hcap hsh h11
  have h := (Rf.shaped_formed hsh).1
  simp [Ty.formed, h1, h2, h3, h4, h5, h6, h7, h8, h9, h10, h11] at h
theorem rstmts_ok (u : List Dk) (a : Option Addr) (B cap : Nat) (x y : Int) (p : Pl) (hp : Pl.at u x y = some p) (hl : ULim u) : ∀ (f : Nat) (l : List St), StsLim f l → StsCap f l → RStsOK f u a B cap x y p l
 | 0, l, _, _ => fun w A c lo r hr hu hB he => by
  have h0 : l = [] := he
  subst h0
  exact rlist_step 0 u a B cap x y p [] A c lo r w hr (fun s hs => by cases hs) hu hB ⟨by simp, Rows.nil_ _ _ _ _, by simp⟩
 | f + 1, l, hlim, hcap => fun w A c lo r hr hu hB he =>
  rlist_step f u a B cap x y p l A c lo r w hr (fun s hs => by
   obtain ⟨h1, h2, _, h4⟩ := hlim s hs
   obtain ⟨g1, g2, g3, g4⟩ := hcap s hs
   exact rstmt_step f u a B cap x y p hp hl s (fun q hq => rexpr_is u a B cap x y p hp hl f q (g2 1 q hq).1 ((g3 (f + 1)).2 q hq) (g2 (f + 1) q hq).2)
    (fun e he q hq => rexpr_is u a B cap x y p hp hl f q ((g2 2 e he).2 q hq).1 (((g3 (f + 2)).2 e he).2 q hq) ((g2 (f + 2) e he).2 q hq).2)
    (fun e he => ((g3 2).2 e he).1)
    (fun b hb => rstmts_ok u a B cap x y p hp hl f b.l (h4 b hb) (g4 b hb)) h1 g1) hu hB he
set_option maxRecDepth 100000 in
set_option maxHeartbeats 4000000 in
theorem rStmts_is (f : Nat) (u : List Dk) (a : Option Addr) (B cap : Nat) (x y : Int) (A : Option Addr) (l : List St) (c : Nat) (r : Int) (w : World) (hr : Ty.Stmts u x y l = r) (hu : UnitAt w B a u) (hB : B ≤ w.heap.size) (hl : ULim u) (hlim : StsLim f l) (hcap : StsCap f l) (he : StsAt f w B A l) :
  Calls Try.prog 17 #[.agg #[.slice a u.length cap], .agg #[.int .i64 x, .int .i64 y], .slice A l.length c] w fun z w' => z = .returned (.int .i64 r) ∧ Below w.heap.size w w' := by
 have HU := Aid.hid hu; have HUL := Aid.hid hl; have HE := Aid.hid he; have HR := Aid.hid hr; have HLM := Aid.hid hlim; have HCP := Aid.hid hcap
 obtain ⟨o, ho⟩ : ∃ o, Pl.at u x y = o := ⟨_, rfl⟩
 have HPL : Hid (Rf.place u x y = o.isSome) := Aid.hid (by rw [Rf.place_at, ho])
 have HO := Aid.hid ho
 obtain ⟨W, hW, Nu, Np, K0⟩ := newh2 w [.slice a u.length cap] [.int .i64 x, .int .i64 y] 24 26
 clear hu hl he hr hlim hcap ho
 obtain ⟨xu0, lu⟩ := xc1 Nu
 obtain ⟨xp0, xp1, lp⟩ := xc2 Np
 go_enter Try.func17, Try.ntmps17
 try simp only [List.append_eq, List.cons_append, List.nil_append]
 go_wp2_with fail
 (try clear hW)
 cases o with
 | none =>
   refine (rplace_is u a B cap x y false _ HPL.out (HU.out.below (K0.out) hB) (Nat.le_trans hB (K0.out).size)).mono ?_; rintro _ w1 ⟨rfl, hb1⟩
   have Kx1 := kb K0 hb1
   have Nu_1 := nb hb1 Nu
   have Np_1 := nb hb1 Np
   clear xu0 lu xp0 xp1 lp
   clear hb1
   obtain rfl : 22 = r := by have h := HR.out; rw [Ty.Stmts, HO.out] at h; exact h
   go_wp2_with fail
   go_ret
   exact ⟨rfl, Kx1.out⟩
 | some p =>
   refine (rplace_is u a B cap x y true _ HPL.out (HU.out.below (K0.out) hB) (Nat.le_trans hB (K0.out).size)).mono ?_; rintro _ w1 ⟨rfl, hb1⟩
   have Kx1 := kb K0 hb1
   have Nu_1 := nb hb1 Nu
   have Np_1 := nb hb1 Np
   clear xu0 lu xp0 xp1 lp
   clear hb1
   obtain ⟨xu0, lu⟩ := xc1 Nu_1
   obtain ⟨xp0, xp1, lp⟩ := xc2 Np_1
   have HR2 : Hid (Ty.stmts p false l = r) := Aid.hid (by have h := HR.out; rw [Ty.Stmts, HO.out] at h; exact h)
   go_wp2_with fail
   refine (rstmts_ok u a B cap x y p HO.out HUL.out f l HLM.out HCP.out _ A c false r HR2.out (HU.out.below (Kx1.out) hB) (Nat.le_trans hB (Kx1.out).size) (HE.out.below Kx1.out hB)).mono ?_; rintro _ w2 ⟨rfl, hb2⟩
   have Kx2 := kb Kx1 hb2
   have Nu_2 := nb hb2 Nu_1
   have Np_2 := nb hb2 Np_1
   clear xu0 lu xp0 xp1 lp
   clear hb2
   go_wp2_with fail
   go_ret
   exact ⟨rfl, Kx2.out⟩
end Go.Proofs.Ytmhdcehpddbjaaa
/- TypingBodies, as a walk. -/
namespace Go.Proofs.Ytmhdcehpddbjaaa
open Go.RowKit

/-- Statements lie, no list of them is too long. -/
def BodyAt (w : World) (B : Nat) (A : Option Addr) (l : List St) : Prop := ∃ f, StsAt f w B A l ∧ StsLim f l ∧ StsCap f l
set_option maxRecDepth 100000 in
set_option maxHeartbeats 20000000 in
theorem bodies_any (u : List Dk) (a : Option Addr) (B cap : Nat) (w : World) (hu : UnitAt w B a u) (hB : B ≤ w.heap.size) (hl : u.length ≤ 16 → ULim u) (hbd : ∀ d ∈ u, BodyAt w B d.bA d.body ∧ ∀ m ∈ d.ms, BodyAt w B m.bA m.body) :
  Calls Try.prog 4 #[.agg #[.slice a u.length cap]] w fun z w' => z = .returned (.bool true) ∧ Below w.heap.size w w' := by
 have HU := Aid.hid hu; have HUL := Aid.hid hl; have HBD := Aid.hid hbd
 obtain ⟨W, hW, Nu, K0⟩ := newh1 w [.slice a u.length cap] 24
 clear hu hl hbd
 obtain ⟨xu0, lu⟩ := xc1 Nu
 by_cases hn : 16 < u.length
 ·
  go_enter Try.func4, Try.ntmps4
  try simp only [List.append_eq, List.cons_append, List.nil_append]
  go_wp2_with fail
  (try clear hW)
  refine (greatUnit3_big a u.length cap _ hn).mono ?_; rintro _ w1 ⟨rfl, hb1⟩
  have Kx1 := kb K0 hb1
  have Nu_1 := nb hb1 Nu
  clear xu0 lu
  clear hb1
  go_wp2_with fail
  refine (awake_is _).mono ?_; rintro _ w2 ⟨rfl, hb2⟩
  have Kx2 := kb Kx1 hb2
  have Nu_2 := nb hb2 Nu_1
  clear hb2
  go_wp2_with fail
  go_ret
  exact ⟨rfl, Kx2.out⟩
 ·
  have hn' : u.length ≤ 16 := by omega
  have HUL := Aid.hid (HUL.out hn')
  clear hn
  go_enter Try.func4, Try.ntmps4
  try simp only [List.append_eq, List.cons_append, List.nil_append]
  go_wp2_with fail
  (try clear hW)
  refine (greatUnit3_is u a B cap _ (HU.out.below (K0.out) hB) (Nat.le_trans hB (K0.out).size) hn').mono ?_; rintro _ w1 ⟨rg, rfl, hb1⟩
  have Kx1 := kb K0 hb1
  have Nu_1 := nb hb1 Nu
  clear xu0 lu
  clear hb1
  obtain ⟨xu0, lu⟩ := xc1 Nu_1
  cases rg
  ·
   go_wp2_with fail
   clear xu0 lu
   have KW := Aid.hid (Kx1.out)
   have HN16 := Aid.hid hn'
   have HU1 := Aid.hid (HU.out.below KW.out hB)
   go_loopw [3] (fun vi wr => ∃ i : Nat, vi = .int .i64 i ∧ i ≤ u.length ∧ Hid (Below w1.heap.size w1 wr)) (fun vi _ => u.length - (intOf vi).toNat)
   case atStart => exact ⟨0, rfl, Nat.zero_le _, Aid.hid (Below.refl _ _)⟩
   case round =>
    obtain ⟨i, rfl, hik, HBB⟩ := hrel
    obtain ⟨wo, hwo⟩ : ∃ x, x = wr := ⟨_, rfl⟩
    subst hwo
    have Kd := Aid.hid (KW.out.trans (HBB.out.mono KW.out.size))
    have Mu := Aid.hid (Nu_1.out.below HBB.out Nu_1.out.lt)
    obtain ⟨xu0, lu⟩ := xc1 Mu
    by_cases hil : i < u.length
    ·
     obtain ⟨d, hd⟩ : ∃ d, u[i]? = some d := ⟨_, List.getElem?_eq_getElem hil⟩
     have HD := Aid.hid hd
     have hmem := List.mem_of_getElem? hd
     obtain ⟨ub, uo, hA, hub, hc⟩ := (HU.out.below Kd.out hB).at_ (by omega)
     have hdd := (HU.out.below Kd.out hB).decls d hmem
     have smm := Aid.hid hdd.smallM
     have u7 := hc i d hd 7 _ rfl
     have u8 := hc i d hd 8 _ rfl
     have lub : ub < wo.heap.size := Nat.lt_of_lt_of_le hub (Nat.le_trans hB Kd.out.size)
     have U7 := Aid.hid u7
     have LUB := Aid.hid lub
     have HBD1 := Aid.hid (HBD.out d hmem)
     have hi2 : (i : Int) < (u.length : Int) := by omega
     have hi0 : (0 : Int) ≤ (i : Int) := by omega
     have HDD := Aid.hid hdd
     rw [hA] at xu0
     have HA := Aid.hid hA
     clear hc hd hmem hdd u7 u8 lub hA
     obtain ⟨X2, hX⟩ : ∃ X, wo.alloc (.cells #[.int .i64 (i : Int), .int .i64 (-1)] 26) = X := ⟨_, rfl⟩
     have Nu_2 := na hX Mu
     have Nq_2 := nw hX
     have Kx2 := nk hX Kd
     have Qs2 := nq hX
     clear xu0 lu
     obtain ⟨xu0, lu⟩ := xc1 Nu_2
     obtain ⟨xq0, xq1, lq⟩ := xc2 Nq_2
     rw [HA.out] at xu0
     obtain ⟨ub', uo', hA', hub', hc'⟩ := (HU.out.below Kx2.out hB).at_ (by omega)
     obtain ⟨rfl, rfl⟩ : ub = ub' ∧ uo = uo' := by have h := HA.out.symm.trans hA'; simpa using h
     have u8 := hc' i d HD.out 8 _ rfl
     have lub : ub < X2.heap.size := Nat.lt_of_lt_of_le hub' (Nat.le_trans hB (Kx2.out).size)
     obtain ⟨f, hs, hsl, hsc⟩ := HBD1.out.1
     have HS := Aid.hid hs; have HSL := Aid.hid hsl; have HSC := Aid.hid hsc
     obtain ⟨r, hr⟩ : ∃ r, Ty.Stmts u (i : Int) (-1) d.body = r := ⟨_, rfl⟩
     have HR := Aid.hid hr
     have HU2 := Aid.hid (show UnitAt w B (some ⟨ub, uo, none⟩) u from HA.out ▸ HU.out)
     clear hc' hA' hs hsl hsc hr
     have xo0 := Mu.out.cell 0 _ rfl
     rw [HA.out] at xo0
     have lo0 := Mu.out.lt
     go_wp2_with fail
     (try clear hX)
     refine wp_cut (fun a0 e a' w' => e = .normal ∧ Aid.Kept ((∃ (v18 v19 v20 v21 v22 v23 v24 v25 v26 v27 v28 v29 v30 v31 v32 v33 v34 v35 : Value), a' = putL a0 [(18, v18), (19, v19), (20, v20), (21, v21), (22, v22), (23, v23), (24, v24), (25, v25), (26, v26), (27, v27), (28, v28), (29, v29), (30, v30), (31, v31), (32, v32), (33, v33), (34, v34), (35, v35), (36, .bool false)]) ∧ Below X2.heap.size X2 w')) ?_ ?_
     ·
      have HZ := Aid.hid (fun (w' : World) (hSw : Below X2.heap.size X2 w') => (⟨kc hSw xu0 lu, kc hSw xq0 lq, kc hSw xq1 lq, kc hSw u8 lub⟩ : _ ∧ _ ∧ _ ∧ _))
      have hb : Below X2.heap.size X2 X2.drew := (Below.refl _ _).drew
      refine Ord.wp_region_go (fun w' => Below X2.heap.size X2 w') 18 [0, 1, 2, 3, 4, 5, 6, 7, 9, 10, 11, 12, 13, 14, 15, 16] (by kernel_rfl) (by kernel_rfl) (fun _ _ _ _ _ h => by cases h.1) (hb) ?_
      clear hb
      have hb : Below X2.heap.size X2 X2.drew := (Below.refl _ _).drew
      generalize X2.drew = wd0 at *
      apply Ord.go_light (i := 0) (by kernel_rfl)
      next => (simp only [la0, la1, la2]; rfl)
      next => rfl
      next => (intro w' hSw; have z := HZ.out w' hSw; clear hSw; go_simp; first | done | with_reducible rfl)
      simp only [Act.put, la3, la4, la5]
      apply Ord.go_light (i := 1) (by kernel_rfl)
      next => (simp only [la0, la1, la2]; rfl)
      next => rfl
      next => (intro w' hSw; have z := HZ.out w' hSw; clear hSw; go_simp; first | done | with_reducible rfl)
      simp only [Act.put, la3, la4, la5]
      apply Ord.go_light (i := 2) (by kernel_rfl)
      next => (simp only [la0, la1, la2]; rfl)
      next => rfl
      next => (intro w' hSw; have z := HZ.out w' hSw; clear hSw; go_simp; first | done | with_reducible rfl)
      simp only [Act.put, la3, la4, la5]
      apply Ord.go_light (i := 3) (by kernel_rfl)
      next => (simp only [la0, la1, la2]; rfl)
      next => rfl
      next => (intro w' hSw; have z := HZ.out w' hSw; clear hSw; go_simp; first | done | with_reducible rfl)
      simp only [Act.put, la3, la4, la5]
      apply Ord.go_light (i := 4) (by kernel_rfl)
      next => (simp only [la0, la1, la2]; rfl)
      next => rfl
      next => (intro w' hSw; have z := HZ.out w' hSw; clear hSw; go_simp; first | done | with_reducible rfl)
      simp only [Act.put, la3, la4, la5]
      apply Ord.go_light (i := 5) (by kernel_rfl)
      next => (simp only [la0, la1, la2]; rfl)
      next => rfl
      next => (intro w' hSw; have z := HZ.out w' hSw; clear hSw; go_simp; first | done | with_reducible rfl)
      simp only [Act.put, la3, la4, la5]
      apply Ord.go_light (i := 6) (by kernel_rfl)
      next => (simp only [la0, la1, la2]; rfl)
      next => rfl
      next => (intro w' hSw; have z := HZ.out w' hSw; clear hSw; go_simp; first | done | with_reducible rfl)
      simp only [Act.put, la3, la4, la5]
      apply Ord.go_light (i := 7) (by kernel_rfl)
      next => (simp only [la0, la1, la2]; rfl)
      next => rfl
      next => (intro w' hSw; have z := HZ.out w' hSw; clear hSw; go_simp; first | done | with_reducible rfl)
      simp only [Act.put, la3, la4, la5]
      apply Ord.go_light (i := 9) (by kernel_rfl)
      next => (simp only [la0, la1, la2]; rfl)
      next => rfl
      next => (intro w' hSw; have z := HZ.out w' hSw; clear hSw; go_simp; first | done | with_reducible rfl)
      simp only [Act.put, la3, la4, la5]
      apply Ord.go_light (i := 10) (by kernel_rfl)
      next => (simp only [la0, la1, la2]; rfl)
      next => rfl
      next => (intro w' hSw; have z := HZ.out w' hSw; clear hSw; go_simp; first | done | with_reducible rfl)
      simp only [Act.put, la3, la4, la5]
      apply Ord.go_light (i := 11) (by kernel_rfl)
      next => (simp only [la0, la1, la2]; rfl)
      next => rfl
      next => (intro w' hSw; have z := HZ.out w' hSw; clear hSw; go_simp; first | done | with_reducible rfl)
      simp only [Act.put, la3, la4, la5]
      apply Ord.go_light (i := 12) (by kernel_rfl)
      next => (simp only [la0, la1, la2]; rfl)
      next => rfl
      next => (intro w' hSw; have z := HZ.out w' hSw; clear hSw; go_simp; first | done | with_reducible rfl)
      simp only [Act.put, la3, la4, la5]
      apply Ord.go_light (i := 13) (by kernel_rfl)
      next => (simp only [la0, la1, la2]; rfl)
      next => rfl
      next => (intro w' hSw; have z := HZ.out w' hSw; clear hSw; go_simp; first | done | with_reducible rfl)
      simp only [Act.put, la3, la4, la5]
      apply Ord.go_light (i := 14) (by kernel_rfl)
      next => (simp only [la0, la1, la2]; rfl)
      next => rfl
      next => (intro w' hSw; have z := HZ.out w' hSw; clear hSw; go_simp; first | done | with_reducible rfl)
      simp only [Act.put, la3, la4, la5]
      apply Ord.go_light (i := 15) (by kernel_rfl)
      next => (simp only [la0, la1, la2]; rfl)
      next => rfl
      next => (intro w' hSw; have z := HZ.out w' hSw; clear hSw; go_simp; first | done | with_reducible rfl)
      simp only [Act.put, la3, la4, la5]
      apply Ord.go_light (i := 16) (by kernel_rfl)
      next => (simp only [la0, la1, la2]; rfl)
      next => rfl
      next => (intro w' hSw; have z := HZ.out w' hSw; clear hSw; go_simp; first | done | with_reducible rfl)
      simp only [Act.put, la3, la4, la5]
      refine Ord.go_one (i := 8) (by kernel_rfl) (by kernel_rfl) ?_
      apply Ord.go_done1
      next => (simp only [la0, la1, la2]; rfl)
      next => rfl
      intro K hK
      go_wp2_with fail
      refine (Stmts_is f u _ B cap (i : Int) (-1) d.bA d.body d.bc r _ HR.out (HU2.out.below (((Kx2.out).trans (hb.mono (Kx2.out).size))) hB) (Nat.le_trans hB (((Kx2.out).trans (hb.mono (Kx2.out).size))).size) HUL.out HSL.out (HS.out.below (((Kx2.out).trans (hb.mono (Kx2.out).size))) hB)).mono ?_; rintro _ vc ⟨rfl, hb'⟩; dsimp only
      refine hK.out _ _ (hb.trans (hb'.mono hb.size)) (fun hHeld => ?_)
      clear hb hb'
      have hb := hHeld
      clear hK K
      try simp only [Act.put, la3, la4, la5]
      refine Ord.go_one (i := 17) (by kernel_rfl) (by kernel_rfl) ?_
      apply Ord.go_done1
      next => (simp only [la0, la1, la2]; rfl)
      next => rfl
      intro K hK
      go_wp2_with fail
      refine (rStmts_is f u _ B cap (i : Int) (-1) d.bA d.body d.bc r _ HR.out (HU2.out.below (((Kx2.out).trans (hb.mono (Kx2.out).size))) hB) (Nat.le_trans hB (((Kx2.out).trans (hb.mono (Kx2.out).size))).size) HUL.out HSL.out HSC.out (HS.out.below (((Kx2.out).trans (hb.mono (Kx2.out).size))) hB)).mono ?_; rintro _ vc ⟨rfl, hb'⟩; dsimp only
      refine hK.out _ _ (hb.trans (hb'.mono hb.size)) (fun hHeld => ?_)
      clear hb hb'
      have hb := hHeld
      clear hK K
      try simp only [Act.put, la3, la4, la5]
      refine Ord.go_tail ?_; simp only [List.drop_succ_cons, List.drop_zero]
      go_wp2_with fail
      (try refine ⟨rfl, ?_⟩)
      unfold Aid.Kept
      (try (refine And.intro ?_ hb))
      simp only [putL, Act.put, la3, la4, la5]; exact ⟨_, _, _, _, _, _, _, _, _, _, _, _, _, _, _, _, _, _, rfl⟩
     rintro e' a' w3 ⟨rfl, ⟨v18, v19, v20, v21, v22, v23, v24, v25, v26, v27, v28, v29, v30, v31, v32, v33, v34, v35, rfl⟩, hb3⟩
     simp only [putL, Act.put, la3, la4, la5]
     have hbq3 := Aid.hid hb3
     have Kx3 := kb Kx2 hb3
     have Nu_3 := nb hb3 Nu_2
     have Nq_3 := nb hb3 Nq_2
     clear xu0 lu xq0 xq1 lq u8 lub xo0 lo0
     clear hb3
     obtain ⟨xu0, lu⟩ := xc1 Nu_3
     obtain ⟨xq0, xq1, lq⟩ := xc2 Nq_3
     go_wp2_with fail
     clear xu0 lu xq0 xq1 lq
     have QB := Aid.hid (Qs2.out.trans (hbq3.out.mono Qs2.out.size))
     have Ki := Aid.hid (Kx3.out)
     go_loopw [5] (fun vk wr => ∃ (k : Nat) (y : Int), vk = .int .i64 k ∧ k ≤ d.ms.length ∧ Hid (Aid.Has wr wo.heap.size [.int .i64 (i : Int), .int .i64 y] 26) ∧ Hid (Below wo.heap.size wo wr)) (fun vk _ => d.ms.length - (intOf vk).toNat)
     case atStart => exact ⟨0, -1, rfl, Nat.zero_le _, Nq_3, QB⟩
     case round =>
      obtain ⟨k, yy, rfl, hkk, HQ, HBI⟩ := hrel
      have Ke := Aid.hid (Kd.out.trans (HBI.out.mono Kd.out.size))
      have Mu2 := Aid.hid (Mu.out.below HBI.out Mu.out.lt)
      obtain ⟨xu0, lu⟩ := xc1 Mu2
      obtain ⟨xq0, xq1, lq⟩ := xc2 HQ
      rw [HA.out] at xu0
      have u7 := (HBI.out.cell (p := ⟨ub, uo + i * 11 + 7, none⟩) LUB.out).trans U7.out
      have lub : ub < wr.heap.size := Nat.lt_of_lt_of_le LUB.out HBI.out.size
      have fq : wr.frozen? ⟨wo.heap.size, 1, none⟩ = false := HQ.out.frozen 1
      have smm2 := smm.out
      by_cases hkl : k < d.ms.length
      ·
       obtain ⟨m, hm⟩ : ∃ m, d.ms[k]? = some m := ⟨_, List.getElem?_eq_getElem hkl⟩
       have hmm := List.mem_of_getElem? hm
       obtain ⟨mb, mo, hmA, hmb, hc2⟩ := (HDD.out.below HBI.out (Nat.le_trans hB Kd.out.size)).meth (by omega)
       have m10 := hc2 k m hm 10 _ rfl
       have lmb : mb < wr.heap.size := Nat.lt_of_lt_of_le hmb (Nat.le_trans hB Ke.out.size)
       obtain ⟨f2, hs, hsl, hsc⟩ := HBD1.out.2 m hmm
       have HS2 := Aid.hid hs; have HSL2 := Aid.hid hsl; have HSC2 := Aid.hid hsc
       obtain ⟨r2, hr⟩ : ∃ r, Ty.Stmts u (i : Int) (k : Int) m.body = r := ⟨_, rfl⟩
       have HR2 := Aid.hid hr
       have hki : (k : Int) < (d.ms.length : Int) := by omega
       rw [hmA] at u7
       have HMA := Aid.hid hmA
       clear hm hmm hc2 hs hsl hsc hr hmA
       have qq := HQ.out.set 1 (.int .i64 (k : Int))
       have qb : Below wo.heap.size wo (wr.setCell ⟨wo.heap.size, 1, none⟩ (.int .i64 (k : Int))) := HBI.out.setCell (Nat.le_refl _) _
       obtain ⟨Y, hY⟩ : ∃ Y, (wr.setCell ⟨wo.heap.size, 1, none⟩ (.int .i64 (k : Int))) = Y := ⟨_, rfl⟩
       rw [hY] at qq qb
       have NQ := Aid.hid (show Aid.Has Y wo.heap.size [.int .i64 (i : Int), .int .i64 (k : Int)] 26 from qq)
       have HBY := Aid.hid qb
       have Ky := Aid.hid (Kd.out.trans (qb.mono Kd.out.size))
       have NU := nb qb Mu
       have y7 := (qb.cell (p := ⟨ub, uo + i * 11 + 7, none⟩) LUB.out).trans U7.out
       rw [HMA.out] at y7
       have my10 : Y.cell? ⟨mb, mo + k * 11 + 10, none⟩ = some (.slice m.bA m.body.length m.bc) := by
        have h1 := (qb.cell (p := ⟨mb, mo + k * 11 + 10, none⟩) (Nat.lt_of_lt_of_le hmb (Nat.le_trans hB Kd.out.size)))
        have h2 := (HBI.out.cell (p := ⟨mb, mo + k * 11 + 10, none⟩) (Nat.lt_of_lt_of_le hmb (Nat.le_trans hB Kd.out.size)))
        exact h1.trans (h2.symm.trans m10)
       have luby : ub < Y.heap.size := Nat.lt_of_lt_of_le LUB.out qb.size
       have lmby : mb < Y.heap.size := Nat.lt_of_lt_of_le hmb (Nat.le_trans hB Ky.out.size)
       clear qq qb
       have yu0 := NU.out.cell 0 _ rfl
       rw [HA.out] at yu0
       obtain ⟨yq0, yq1, -⟩ := xc2 NQ
       have lyu := NU.out.lt
       have lyq := NQ.out.lt
       go_wp2_with fail
       clear hY
       refine wp_cut (fun a0 e a' w' => e = .normal ∧ Aid.Kept ((∃ (v50 v51 v52 v53 v54 v55 v56 v57 v58 v59 v60 v61 v62 v63 v64 v65 v66 v67 v68 v69 v70 v71 v72 v73 v74 v75 : Value), a' = putL a0 [(50, v50), (51, v51), (52, v52), (53, v53), (54, v54), (55, v55), (56, v56), (57, v57), (58, v58), (59, v59), (60, v60), (61, v61), (62, v62), (63, v63), (64, v64), (65, v65), (66, v66), (67, v67), (68, v68), (69, v69), (70, v70), (71, v71), (72, v72), (73, v73), (74, v74), (75, v75), (76, .bool false)]) ∧ Below Y.heap.size Y w')) ?_ ?_
       ·
        have HZ := Aid.hid (fun (w' : World) (hSw : Below Y.heap.size Y w') => (⟨kc hSw yu0 lyu, kc hSw yq0 lyq, kc hSw yq1 lyq, kc hSw y7 luby, kc hSw my10 lmby⟩ : _ ∧ _ ∧ _ ∧ _ ∧ _))
        have hb : Below Y.heap.size Y Y.drew := (Below.refl _ _).drew
        refine Ord.wp_region_go (fun w' => Below Y.heap.size Y w') 26 [0, 1, 2, 3, 4, 5, 6, 7, 8, 9, 10, 11, 13, 14, 15, 16, 17, 18, 19, 20, 21, 22, 23, 24] (by kernel_rfl) (by kernel_rfl) (fun _ _ _ _ _ h => by cases h.1) (hb) ?_
        clear hb
        have hb : Below Y.heap.size Y Y.drew := (Below.refl _ _).drew
        generalize Y.drew = wd0 at *
        apply Ord.go_light (i := 0) (by kernel_rfl)
        next => (simp only [la0, la1, la2]; rfl)
        next => rfl
        next => (intro w' hSw; have z := HZ.out w' hSw; clear hSw; go_simp; first | done | with_reducible rfl)
        simp only [Act.put, la3, la4, la5]
        apply Ord.go_light (i := 1) (by kernel_rfl)
        next => (simp only [la0, la1, la2]; rfl)
        next => rfl
        next => (intro w' hSw; have z := HZ.out w' hSw; clear hSw; go_simp; first | done | with_reducible rfl)
        simp only [Act.put, la3, la4, la5]
        apply Ord.go_light (i := 2) (by kernel_rfl)
        next => (simp only [la0, la1, la2]; rfl)
        next => rfl
        next => (intro w' hSw; have z := HZ.out w' hSw; clear hSw; go_simp; first | done | with_reducible rfl)
        simp only [Act.put, la3, la4, la5]
        apply Ord.go_light (i := 3) (by kernel_rfl)
        next => (simp only [la0, la1, la2]; rfl)
        next => rfl
        next => (intro w' hSw; have z := HZ.out w' hSw; clear hSw; go_simp; first | done | with_reducible rfl)
        simp only [Act.put, la3, la4, la5]
        apply Ord.go_light (i := 4) (by kernel_rfl)
        next => (simp only [la0, la1, la2]; rfl)
        next => rfl
        next => (intro w' hSw; have z := HZ.out w' hSw; clear hSw; go_simp; first | done | with_reducible rfl)
        simp only [Act.put, la3, la4, la5]
        apply Ord.go_light (i := 5) (by kernel_rfl)
        next => (simp only [la0, la1, la2]; rfl)
        next => rfl
        next => (intro w' hSw; have z := HZ.out w' hSw; clear hSw; go_simp; first | done | with_reducible rfl)
        simp only [Act.put, la3, la4, la5]
        apply Ord.go_light (i := 6) (by kernel_rfl)
        next => (simp only [la0, la1, la2]; rfl)
        next => rfl
        next => (intro w' hSw; have z := HZ.out w' hSw; clear hSw; go_simp; first | done | with_reducible rfl)
        simp only [Act.put, la3, la4, la5]
        apply Ord.go_light (i := 7) (by kernel_rfl)
        next => (simp only [la0, la1, la2]; rfl)
        next => rfl
        next => (intro w' hSw; have z := HZ.out w' hSw; clear hSw; go_simp; first | done | with_reducible rfl)
        simp only [Act.put, la3, la4, la5]
        apply Ord.go_light (i := 8) (by kernel_rfl)
        next => (simp only [la0, la1, la2]; rfl)
        next => rfl
        next => (intro w' hSw; have z := HZ.out w' hSw; clear hSw; go_simp; first | done | with_reducible rfl)
        simp only [Act.put, la3, la4, la5]
        apply Ord.go_light (i := 9) (by kernel_rfl)
        next => (simp only [la0, la1, la2]; rfl)
        next => rfl
        next => (intro w' hSw; have z := HZ.out w' hSw; clear hSw; go_simp; first | done | with_reducible rfl)
        simp only [Act.put, la3, la4, la5]
        apply Ord.go_light (i := 10) (by kernel_rfl)
        next => (simp only [la0, la1, la2]; rfl)
        next => rfl
        next => (intro w' hSw; have z := HZ.out w' hSw; clear hSw; go_simp; first | done | with_reducible rfl)
        simp only [Act.put, la3, la4, la5]
        apply Ord.go_light (i := 11) (by kernel_rfl)
        next => (simp only [la0, la1, la2]; rfl)
        next => rfl
        next => (intro w' hSw; have z := HZ.out w' hSw; clear hSw; go_simp; first | done | with_reducible rfl)
        simp only [Act.put, la3, la4, la5]
        apply Ord.go_light (i := 13) (by kernel_rfl)
        next => (simp only [la0, la1, la2]; rfl)
        next => rfl
        next => (intro w' hSw; have z := HZ.out w' hSw; clear hSw; go_simp; first | done | with_reducible rfl)
        simp only [Act.put, la3, la4, la5]
        apply Ord.go_light (i := 14) (by kernel_rfl)
        next => (simp only [la0, la1, la2]; rfl)
        next => rfl
        next => (intro w' hSw; have z := HZ.out w' hSw; clear hSw; go_simp; first | done | with_reducible rfl)
        simp only [Act.put, la3, la4, la5]
        apply Ord.go_light (i := 15) (by kernel_rfl)
        next => (simp only [la0, la1, la2]; rfl)
        next => rfl
        next => (intro w' hSw; have z := HZ.out w' hSw; clear hSw; go_simp; first | done | with_reducible rfl)
        simp only [Act.put, la3, la4, la5]
        apply Ord.go_light (i := 16) (by kernel_rfl)
        next => (simp only [la0, la1, la2]; rfl)
        next => rfl
        next => (intro w' hSw; have z := HZ.out w' hSw; clear hSw; go_simp; first | done | with_reducible rfl)
        simp only [Act.put, la3, la4, la5]
        apply Ord.go_light (i := 17) (by kernel_rfl)
        next => (simp only [la0, la1, la2]; rfl)
        next => rfl
        next => (intro w' hSw; have z := HZ.out w' hSw; clear hSw; go_simp; first | done | with_reducible rfl)
        simp only [Act.put, la3, la4, la5]
        apply Ord.go_light (i := 18) (by kernel_rfl)
        next => (simp only [la0, la1, la2]; rfl)
        next => rfl
        next => (intro w' hSw; have z := HZ.out w' hSw; clear hSw; go_simp; first | done | with_reducible rfl)
        simp only [Act.put, la3, la4, la5]
        apply Ord.go_light (i := 19) (by kernel_rfl)
        next => (simp only [la0, la1, la2]; rfl)
        next => rfl
        next => (intro w' hSw; have z := HZ.out w' hSw; clear hSw; go_simp; first | done | with_reducible rfl)
        simp only [Act.put, la3, la4, la5]
        apply Ord.go_light (i := 20) (by kernel_rfl)
        next => (simp only [la0, la1, la2]; rfl)
        next => rfl
        next => (intro w' hSw; have z := HZ.out w' hSw; clear hSw; go_simp; first | done | with_reducible rfl)
        simp only [Act.put, la3, la4, la5]
        apply Ord.go_light (i := 21) (by kernel_rfl)
        next => (simp only [la0, la1, la2]; rfl)
        next => rfl
        next => (intro w' hSw; have z := HZ.out w' hSw; clear hSw; go_simp; first | done | with_reducible rfl)
        simp only [Act.put, la3, la4, la5]
        apply Ord.go_light (i := 22) (by kernel_rfl)
        next => (simp only [la0, la1, la2]; rfl)
        next => rfl
        next => (intro w' hSw; have z := HZ.out w' hSw; clear hSw; go_simp; first | done | with_reducible rfl)
        simp only [Act.put, la3, la4, la5]
        apply Ord.go_light (i := 23) (by kernel_rfl)
        next => (simp only [la0, la1, la2]; rfl)
        next => rfl
        next => (intro w' hSw; have z := HZ.out w' hSw; clear hSw; go_simp; first | done | with_reducible rfl)
        simp only [Act.put, la3, la4, la5]
        apply Ord.go_light (i := 24) (by kernel_rfl)
        next => (simp only [la0, la1, la2]; rfl)
        next => rfl
        next => (intro w' hSw; have z := HZ.out w' hSw; clear hSw; go_simp; first | done | with_reducible rfl)
        simp only [Act.put, la3, la4, la5]
        refine Ord.go_one (i := 12) (by kernel_rfl) (by kernel_rfl) ?_
        apply Ord.go_done1
        next => (simp only [la0, la1, la2]; rfl)
        next => rfl
        intro K hK
        go_wp2_with fail
        refine (Stmts_is f2 u _ B cap (i : Int) (k : Int) m.bA m.body m.bc r2 _ HR2.out (HU2.out.below (((Ky.out).trans (hb.mono (Ky.out).size))) hB) (Nat.le_trans hB (((Ky.out).trans (hb.mono (Ky.out).size))).size) HUL.out HSL2.out (HS2.out.below (((Ky.out).trans (hb.mono (Ky.out).size))) hB)).mono ?_; rintro _ vc ⟨rfl, hb'⟩; dsimp only
        refine hK.out _ _ (hb.trans (hb'.mono hb.size)) (fun hHeld => ?_)
        clear hb hb'
        have hb := hHeld
        clear hK K
        try simp only [Act.put, la3, la4, la5]
        refine Ord.go_one (i := 25) (by kernel_rfl) (by kernel_rfl) ?_
        apply Ord.go_done1
        next => (simp only [la0, la1, la2]; rfl)
        next => rfl
        intro K hK
        go_wp2_with fail
        refine (rStmts_is f2 u _ B cap (i : Int) (k : Int) m.bA m.body m.bc r2 _ HR2.out (HU2.out.below (((Ky.out).trans (hb.mono (Ky.out).size))) hB) (Nat.le_trans hB (((Ky.out).trans (hb.mono (Ky.out).size))).size) HUL.out HSL2.out HSC2.out (HS2.out.below (((Ky.out).trans (hb.mono (Ky.out).size))) hB)).mono ?_; rintro _ vc ⟨rfl, hb'⟩; dsimp only
        refine hK.out _ _ (hb.trans (hb'.mono hb.size)) (fun hHeld => ?_)
        clear hb hb'
        have hb := hHeld
        clear hK K
        try simp only [Act.put, la3, la4, la5]
        refine Ord.go_tail ?_; simp only [List.drop_succ_cons, List.drop_zero]
        go_wp2_with fail
        (try refine ⟨rfl, ?_⟩)
        unfold Aid.Kept
        (try (refine And.intro ?_ hb))
        simp only [putL, Act.put, la3, la4, la5]; exact ⟨_, _, _, _, _, _, _, _, _, _, _, _, _, _, _, _, _, _, _, _, _, _, _, _, _, _, rfl⟩
       rintro e' a' w4 ⟨rfl, ⟨v50, v51, v52, v53, v54, v55, v56, v57, v58, v59, v60, v61, v62, v63, v64, v65, v66, v67, v68, v69, v70, v71, v72, v73, v74, v75, rfl⟩, hb4⟩
       simp only [putL, Act.put, la3, la4, la5]
       have hbq4 := Aid.hid hb4
       have Kx4 := kb Ky hb4
       have NU_4 := nb hb4 NU
       have NQ_4 := nb hb4 NQ
       clear xu0 lu xq0 xq1 lq u7 lub fq m10 lmb yu0 yq0 yq1 lyu lyq y7 my10 luby lmby
       clear hb4
       have HB9 := Aid.hid (HBY.out.trans (hbq4.out.mono HBY.out.size))
       go_wp2_with fail
       go_roundw
       case rel => exact ⟨k + 1, (k : Int), by go_num, by omega, NQ_4, HB9⟩
       case measure => simp [intOf]; omega
      ·
       have HB8 := Aid.hid (HBB.out.trans (HBI.out.mono HBB.out.size))
       go_wp2_with fail
       go_roundw
       case rel => exact ⟨i + 1, by go_num, by omega, HB8⟩
       case measure => simp [intOf]; omega
    ·
     go_wp2_with fail
     refine (awake_is _).mono ?_; rintro _ w2 ⟨rfl, hb2⟩
     have Kx2 := kb Kd hb2
     have Mu_2 := nb hb2 Mu
     clear xu0 lu
     clear hb2
     go_wp2_with fail
     go_ret
     exact ⟨rfl, Kx2.out⟩
  ·
   go_wp2_with fail
   refine (awake_is _).mono ?_; rintro _ w2 ⟨rfl, hb2⟩
   have Kx2 := kb Kx1 hb2
   have Nu_2 := nb hb2 Nu_1
   clear xu0 lu
   clear hb2
   go_wp2_with fail
   go_ret
   exact ⟨rfl, Kx2.out⟩
end Go.Proofs.Ytmhdcehpddbjaaa
