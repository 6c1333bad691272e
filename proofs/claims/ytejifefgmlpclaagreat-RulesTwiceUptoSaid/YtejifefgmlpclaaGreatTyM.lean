/- Parts of typing, as walks: an If; a statement; statements. -/
import Derived.Test.YtejifefgmlpclaaGreatTyI
import Derived.Test.YtejifefgmlpclaaGreatTyK
import Derived.Test.YtejifefgmlpclaaGreatTyL
import Derived.WalkKit
import Derived.WalkSpells
import Derived.WalkLawsBesides
import Derived.LoopTactic
import Derived.Deep.QuietTactic
import Derived.BigQuiet
import Derived.Below
import Derived.Laws.ResultCell
import Derived.Laws.Tables
import Derived.Laws.Rows
import Derived.Deep.Cut
import Derived.KernelRfl
set_option linter.unusedSimpArgs false
set_option linter.unusedVariables false
namespace Go.Proofs.YtejifefgmlpclaaGreat
open Go.RowKit

/-- How a statement's parts lie. -/
structure StAt (f : Nat) (w : World) (B : Nat) (s : St) : Prop where
  ex : ExsAt (f + 1) w B s.eA s.es
  lr : Rows w B 1 s.lA (s.ls.map Lb.cells)
  le : ∀ x ∈ s.ls, Rows w B 1 x.A (x.xs.map fun n => [Value.int .i64 n])
  br : Rows w B 1 s.bA (s.bs.map Bk.cells)
  ba : ∀ b ∈ s.bs, StsAt f w B b.A b.l
theorem StAt.below {f : Nat} {w w' : World} {B C : Nat} {s : St} (h : StAt f w B s) (hb : Below C w w') (hC : B ≤ C) : StAt f w' B s :=
  ⟨h.ex.below hb hC, h.lr.below hb hC, fun x hx => (h.le x hx).below hb hC, h.br.below hb hC, fun b hb' => (h.ba b hb').below hb hC⟩
theorem ExsAt.up {w : World} {B : Nat} : ∀ {f : Nat} {A : Option Addr} {l : List Ex}, ExsAt f w B A l → ExsAt (f + 1) w B A l
  | 0, _, _, h => by
    have h : _ = [] := h
    subst h
    exact ⟨by simp, Rows.nil_ _ _ _ _, by simp⟩
  | _ + 1, _, _, h => ⟨h.1, h.2.1, fun e he => ExsAt.up (h.2.2 e he)⟩
theorem StsAt.at {f : Nat} {w : World} {B : Nat} {A : Option Addr} {l : List St} (h : StsAt (f + 1) w B A l) {s : St} (hs : s ∈ l) : StAt f w B s := by
  obtain ⟨h1, ⟨_, h3, h4⟩, _, h6, h7⟩ := h.2.2 s hs
  exact ⟨h1.up, h3, fun x hx => (h4 x hx).2, h6, h7⟩
/-- No list of a statement is too long. -/
structure StLim (s : St) : Prop where
  e : s.es.length ≤ 1000000000
  l : s.ls.length ≤ 1000000000
  b : s.bs.length ≤ 1000000000
  x : (s.ls.map (·.xs)).flatten.length ≤ 1000000000
theorem Ty.choice_cons (a : Rs) (rs : List Rs) (b : Int) (bs : List Int) : Ty.choice (a :: rs) (b :: bs) = if (Ty.same a 2).2 ≠ 0 then (Ty.same a 2).2 else if b ≠ 0 then b else Ty.choice rs bs := by rw [Ty.choice]
set_option maxRecDepth 100000 in
set_option maxHeartbeats 4000000 in
theorem choice_is (f B b : Nat) (p : Pl) (a : Pa) (s : St) (lo : Bool) (r : Int) (w : World) (hX : ∀ x ∈ s.es, ExOK f B b p a x) (hS : ∀ x ∈ s.bs, StsOK f B b p a x.l) (hr : Ty.choice (s.es.map (Ty.expr p)) (s.bs.map fun x => Ty.stmts p lo x.l) = r) (h : PlAt w B b p a) (he : StAt f w B s) (hl : StLim s) (hn : s.bs.length = s.es.length + 1) :
    Calls Tryz.prog 80 #[.pointer (some ⟨b, 0, none⟩), .agg #[.int .i64 s.k, .int .i64 s.n, .string s.name, .slice s.eA s.es.length s.ec, .slice s.lA s.ls.length s.lc, .slice s.bA s.bs.length s.bc], .bool lo] w fun z w' => z = .returned (.int .i64 r) ∧ Below w.heap.size w w' := by
  obtain ⟨EA, hEA⟩ : ∃ EA, s.eA = EA := ⟨_, rfl⟩
  obtain ⟨BA, hBA⟩ : ∃ BA, s.bA = BA := ⟨_, rfl⟩
  have hex := he.ex
  have hbr := he.br
  rw [hEA] at hex ⊢
  rw [hBA] at hbr ⊢
  have n4 := Aid.Has.new w [.int .i64 s.k, .int .i64 s.n, .string s.name, .slice EA s.es.length s.ec, .slice s.lA s.ls.length s.lc, .slice BA s.bs.length s.bc] 60
  have k0 := below_new w (.cells #[.int .i64 s.k, .int .i64 s.n, .string s.name, .slice EA s.es.length s.ec, .slice s.lA s.ls.length s.lc, .slice BA s.bs.length s.bc] 60)
  obtain ⟨W, hW⟩ : ∃ W, w.alloc (.cells #[.int .i64 s.k, .int .i64 s.n, .string s.name, .slice EA s.es.length s.ec, .slice s.lA s.ls.length s.lc, .slice BA s.bs.length s.bc] 60) = W := ⟨_, rfl⟩
  rw [hW] at n4 k0
  have b3 := n4.cell 3 _ rfl
  have l4 := n4.lt
  have N4 := Aid.hid n4; have K0 := Aid.hid k0
  have HX := Aid.hid hX; have HS := Aid.hid hS; have HR := Aid.hid hr; have HH := Aid.hid h; have HEX := Aid.hid hex; have HBR := Aid.hid hbr; have HBA := Aid.hid he.ba
  have HN := Aid.hid hn
  have le1 := hl.e
  have le2 := hl.b
  have hB := h.le
  clear hX hS hr h he hl hn hEA hBA hex hbr n4 k0
  go_enter Tryz.func80, Tryz.ntmps80
  try simp only [List.append_eq, List.cons_append, List.nil_append]
  go_wp2_with fail
  clear hW
  go_loopw [15] (fun vi wr => ∃ k : Nat, vi = .int .i64 k ∧ k ≤ s.es.length ∧ Hid (Ty.choice ((s.es.map (Ty.expr p)).drop k) ((s.bs.map fun x => Ty.stmts p lo x.l).drop k) = r) ∧ Hid (Below W.heap.size W wr)) (fun vi _ => s.es.length - (intOf vi).toNat)
  case atStart => exact ⟨0, rfl, Nat.zero_le _, HR, Aid.hid (Below.refl _ _)⟩
  case round =>
    obtain ⟨k, rfl, hk, HK, HB⟩ := hrel
    have Kall : Below w.heap.size w wr := K0.out.trans (HB.out.mono K0.out.size)
    have hkb : k < s.bs.length := by have := HN.out; omega
    obtain ⟨blk, hblk⟩ : ∃ blk, s.bs[k]? = some blk := ⟨_, List.getElem?_eq_getElem hkb⟩
    obtain ⟨cb, hcb⟩ : ∃ c, Ty.stmts p lo blk.l = c := ⟨_, rfl⟩
    have HCB := Aid.hid hcb
    have HBLK := Aid.hid hblk
    clear hcb hblk
    by_cases hlt : k < s.es.length
    · obtain ⟨x, hx⟩ : ∃ x, s.es[k]? = some x := ⟨_, List.getElem?_eq_getElem hlt⟩
      obtain ⟨eb, off, rfl, hebB, hc, hs⟩ := Ex.at1 (HEX.out.below Kall hB) hx
      have c0 := hc 0 _ rfl
      have c1 := hc 1 _ rfl
      have c2 := hc 2 _ rfl
      have c3 := hc 3 _ rfl
      have c4 := hc 4 _ rfl
      simp only [Nat.add_zero] at c0
      have leb : eb < wr.heap.size := by have := Kall.size; omega
      have kk := below_new wr (.cells #[.int .i64 x.k, .int .i64 x.n, .string x.name, .string x.what, .slice x.A x.args.length x.c] 79)
      obtain ⟨⟨t1, d1⟩, hsm⟩ : ∃ q, Ty.same (Ty.expr p x) 2 = q := ⟨_, rfl⟩
      have HK2 := Aid.hid (show (if d1 ≠ 0 then d1 else if cb ≠ 0 then cb else Ty.choice ((s.es.map (Ty.expr p)).drop (k + 1)) ((s.bs.map fun x => Ty.stmts p lo x.l).drop (k + 1))) = r by
        have := HK.out
        rw [tdrop_at (x := Ty.expr p x) (by simp [hx]), tdrop_at (x := cb) (by simp [HBLK.out, HCB.out]), Ty.choice_cons, hsm] at this
        exact this)
      have HC := Aid.hid (same_is f B b p a x 2 t1 d1 (wr.alloc (.cells #[.int .i64 x.k, .int .i64 x.n, .string x.name, .string x.what, .slice x.A x.args.length x.c] 79)) (HX.out x (List.mem_of_getElem? hx)) hsm ((HH.out.below Kall).below kk) (hs.below kk (by have := Kall.size; omega)))
      have KK := Aid.hid kk
      clear hc hx hs HK hsm Kall kk
      go_wp2_with fail
      refine HC.out.mono ?_; rintro _ w5 ⟨rfl, hb5⟩
      have hb6 := (HB.out.alloc HB.out.size (.cells #[.int .i64 x.k, .int .i64 x.n, .string x.name, .string x.what, .slice x.A x.args.length x.c] 79)).trans (hb5.mono (Nat.le_trans HB.out.size KK.out.size))
      have hb7 := hb6.alloc hb6.size (.cells #[.int .i64 t1.k, .int .i64 t1.lo, .int .i64 t1.hi, .string t1.name] 44)
      obtain ⟨X, hX⟩ : ∃ X, w5.alloc (.cells #[.int .i64 t1.k, .int .i64 t1.lo, .int .i64 t1.hi, .string t1.name] 44) = X := ⟨_, rfl⟩
      rw [hX] at hb7
      have KX := Aid.hid (K0.out.trans (hb7.mono K0.out.size))
      have HBX := Aid.hid hb7
      have n4 := N4.out.below hb7 N4.out.lt
      have b5 := n4.cell 5 _ rfl
      have l4b := n4.lt
      clear hb5 hb6 HC c0 c1 c2 c3 c4 leb KK hb7 n4
      by_cases hd : d1 = 0
      · subst hd
        obtain ⟨gb, go, rfl, hgB, cg⟩ := Bk.at1 (HBR.out.below KX.out hB) HBLK.out
        have lgb : gb < X.heap.size := by have := KX.out.size; omega
        have HC2 := Aid.hid (HS.out blk (List.mem_of_getElem? HBLK.out) X blk.A blk.c lo cb HCB.out (HH.out.below KX.out) ((HBA.out blk (List.mem_of_getElem? HBLK.out)).below KX.out hB))
        have hkb2 : (k : Int) < (s.bs.length : Int) := by omega
        go_wp2_with fail
        clear hX
        refine HC2.out.mono ?_; rintro _ w8 ⟨rfl, hb8⟩
        have KB8 := Aid.hid (HBX.out.trans (hb8.mono HBX.out.size))
        clear hb8 cg lgb
        by_cases hcz : cb = 0
        · subst hcz
          have NX := Aid.hid (show Ty.choice ((s.es.map (Ty.expr p)).drop (k + 1)) ((s.bs.map fun x => Ty.stmts p lo x.l).drop (k + 1)) = r by have := HK2.out; simpa using this)
          go_wp2_with fail
          go_roundw
          case rel => exact ⟨k + 1, by go_num, by omega, NX, KB8⟩
          case measure => simp [intOf]; omega
        · obtain rfl : cb = r := by have := HK2.out; simpa [hcz] using this
          go_wp2_with fail
          go_ret
          exact ⟨rfl, K0.out.trans (KB8.out.mono K0.out.size)⟩
      · obtain rfl : d1 = r := by have := HK2.out; simpa [hd] using this
        go_wp2_with fail
        clear hX
        go_ret
        exact ⟨rfl, KX.out⟩
    · have hke : k = s.es.length := by omega
      have HRB : Hid (cb = r) := Aid.hid (by
        have := HK.out
        rw [List.drop_eq_nil_of_le (by simp; omega), tdrop_at (x := cb) (by simp [HBLK.out, HCB.out]), Ty.choice] at this
        exact this)
      obtain ⟨gb, go, rfl, hgB, cg⟩ := Bk.at1 (HBR.out.below Kall hB) HBLK.out
      have n4 := N4.out.below HB.out N4.out.lt
      have b5 := n4.cell 5 _ rfl
      have b3r := n4.cell 3 _ rfl
      have l4b := n4.lt
      have lgb : gb < wr.heap.size := by have := Kall.size; omega
      have HC2 := Aid.hid (HS.out blk (List.mem_of_getElem? HBLK.out) wr blk.A blk.c lo cb HCB.out (HH.out.below Kall) ((HBA.out blk (List.mem_of_getElem? HBLK.out)).below Kall hB))
      rw [hke] at cg
      have hkb2 : (s.es.length : Int) < (s.bs.length : Int) := by have := HN.out; omega
      have KAL := Aid.hid Kall
      clear n4 Kall HK hke hkb
      go_wp2_with fail
      refine HC2.out.mono ?_; rintro _ w8 ⟨rfl, hb8⟩
      have K8 := Aid.hid (KAL.out.trans (hb8.mono KAL.out.size))
      obtain rfl := HRB.out
      clear hb8
      go_wp2_with fail
      go_ret
      exact ⟨rfl, K8.out⟩
end Go.Proofs.YtejifefgmlpclaaGreat
