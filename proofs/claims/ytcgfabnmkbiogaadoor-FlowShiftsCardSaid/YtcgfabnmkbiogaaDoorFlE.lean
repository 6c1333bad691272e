/- The checker's state in memory; reach. -/
import Derived.Test.YtcgfabnmkbiogaaDoorFlA
import Derived.Test.YtcgfabnmkbiogaaDoorFlowLine
import Derived.RegionTactic
import Derived.BigRegion
import Derived.ChangeAlike
import Derived.WalkKit
import Derived.WalkSpells
import Derived.WalkLawsBesides
import Derived.LoopTactic
import Derived.Deep.QuietTactic
import Derived.BigQuiet
import Derived.Below
import Derived.Laws.ResultCell
import Derived.Laws.Tables
import Derived.Laws.Rows
import Derived.Deep.Cut
import Derived.KernelRfl
namespace Go.Proofs.YtcgfabnmkbiogaaDoor
open Go.RowKit

/-- How a checker lies that goes along: in block b, what is known in g1, the stacks in g2, what is to do in a row of its own. -/
structure Fs (w0 w : World) (b g1 g2 : Nat) (x : Img) (c : Cod) (s : FSt) (T : Option Addr) (tc : Nat) : Prop where
  has : Aid.Has w b [.slice x.fA x.faces.length x.fc, .slice x.cA x.classes.length x.cc, .slice x.dA x.codes.length x.dc, .slice x.nA x.insts.length x.nc, .string x.globals, .slice x.iA x.init.length x.ic, .slice x.bA x.blocks.length x.bc, .slice x.xA x.ins.length x.xc, .slice x.oA x.outs.length x.oc, .slice x.jA x.jobs.length x.jc, .int .i64 x.d, .int .i64 x.w, .int .i64 c.cls, .string c.params, .string c.locals, .bool c.ret, .int .i64 c.stack, .slice c.oA c.ops.length c.oc, .slice (some ⟨g1, 0, none⟩) s.kn.length s.kn.length, .slice (some ⟨g2, 0, none⟩) s.st.length s.st.length, .slice T s.td.length tc, .int .i64 s.most] 52
  kn : Aid.Has w g1 (s.kn.map Value.bool) 4
  st : Aid.Has w g2 (s.st.map Value.string) 9
  td : w.ownsRow w0.heap.size 3 1 (.slice T s.td.length tc) s.td.length (s.td.map fun n : Nat => Value.int .i64 (n : Int))
  sep : b ≠ g1 ∧ b ≠ g2 ∧ g1 ≠ g2
  sept : ∀ q, (Value.slice T s.td.length tc).ownBlock = some q → q ≠ b ∧ q ≠ g1 ∧ q ≠ g2
  low : w0.heap.size ≤ b ∧ w0.heap.size ≤ g1 ∧ w0.heap.size ≤ g2
  below : Below w0.heap.size w0 w
  len : s.kn.length = c.ops.length ∧ s.st.length = c.ops.length
  sz : ∀ u ∈ s.st, u.size ≤ 10000
  room : s.td.length + s.kn.count false ≤ c.ops.length
  img : Img.At w0 w0.heap.size x
  sm : Fl.Sm x
  cm : c ∈ x.codes
  ml : Fl.Max w0
theorem Fs.ck {w0 w : World} {b g1 g2 : Nat} {x : Img} {c : Cod} {s : FSt} {T : Option Addr} {tc : Nat} (h : Fs w0 w b g1 g2 x c s T tc) :
    Ck w b x c (.slice (some ⟨g1, 0, none⟩) s.kn.length s.kn.length) (.slice (some ⟨g2, 0, none⟩) s.st.length s.st.length) (.slice T s.td.length tc) s.most w0.heap.size :=
  ⟨h.has, h.img.below h.below (Nat.le_refl _), h.below.size, h.sm, h.cm, h.ml.below h.below⟩
theorem Fs.keep {w0 w w' : World} {b g1 g2 : Nat} {x : Img} {c : Cod} {s : FSt} {T : Option Addr} {tc : Nat} (h : Fs w0 w b g1 g2 x c s T tc) (hb : Below w.heap.size w w') : Fs w0 w' b g1 g2 x c s T tc :=
  ⟨h.has.below hb h.has.lt, h.kn.below hb h.kn.lt, h.st.below hb h.st.lt, own_keeps h.td hb, h.sep, h.sept, h.low, h.below.trans (hb.mono h.below.size), h.len, h.sz, h.room, h.img, h.sm, h.cm, h.ml⟩
theorem own_other {w : World} {base e sz n b : Nat} {v : Value} {xs : List Value} (h : w.ownsRow base e sz v n xs) (hb : ∀ q, v.ownBlock = some q → q ≠ b) (j : Nat) (x : Value) : (w.setCell ⟨b, j, none⟩ x).ownsRow base e sz v n xs := by
  rcases h with ⟨h1, h2 | ⟨g, cp, cur, p1, p2, p3, p4⟩⟩
  · exact ⟨h1, Or.inl h2⟩
  · exact ⟨h1, Or.inr ⟨g, cp, cur, p1, p2, (Below.heap_setCell w ⟨b, j, none⟩ x g (hb g (by rw [p1]; rfl))).trans p3, p4⟩⟩
theorem has_grown {w w' : World} {b : Nat} {xs : List Value} {t : TypeId} {r : Option Nat} (h : Aid.Has w b xs t) (hg : w.grownBy w' r) (hr : some b ≠ r) : Aid.Has w' b xs t := (hg.block b h.lt hr).trans h
theorem info_int : (Tryd.prog.info? 3).map (fun i => (i.zero, i.size, i.bytes)) = some (some (.int .i64 0), 1, 8) := by kernel_rfl
theorem own_slice {w : World} {base e sz n : Nat} {v : Value} {xs : List Value} (h : w.ownsRow base e sz v n xs) : ∃ A c, v = .slice A n c := by
  rcases h.2 with ⟨h1, rfl⟩ | ⟨g, cap, cur, h1, _⟩
  · exact ⟨none, 0, h1⟩
  · exact ⟨_, _, h1⟩
set_option maxRecDepth 100000 in
set_option maxHeartbeats 2000000 in
theorem reach_is (w0 : World) (b g1 g2 : Nat) (x : Img) (c : Cod) (s : FSt) (T : Option Addr) (tc : Nat) (i : Int) (t : ByteArray) (w : World) (h : Fs w0 w b g1 g2 x c s T tc) (hts : t.size ≤ 10000) :
    Calls Tryd.prog 13 #[.pointer (some ⟨b, 0, none⟩), .int .i64 i, .string t] w fun e w' => (s.reach i t = none ∧ e = .returned (.bool false) ∧ w = w') ∨ ∃ s' T' tc', s.reach i t = some s' ∧ e = .returned (.bool true) ∧ Fs w0 w' b g1 g2 x c s' T' tc' := by
  obtain ⟨hl1, hl2⟩ := h.len
  have hops := (h.sm.cp c h.cm).2.2
  by_cases hi : 0 ≤ i ∧ i < s.kn.length
  · obtain ⟨q, rfl⟩ : ∃ q : Nat, i = q := ⟨i.toNat, by omega⟩
    have hq : q < s.kn.length := by omega
    have hq2 : q < c.ops.length := by omega
    have hq3 : q < s.st.length := by omega
    obtain ⟨kv, hkv⟩ : ∃ kv, s.kn[q]? = some kv := ⟨_, List.getElem?_eq_getElem hq⟩
    obtain ⟨tv, htv⟩ : ∃ tv, s.st[q]? = some tv := ⟨_, List.getElem?_eq_getElem hq3⟩
    have a17 := h.has.cell 17 _ rfl
    have a18 := h.has.cell 18 _ rfl
    have a19 := h.has.cell 19 _ rfl
    have ck := h.kn.cell q (.bool kv) (by rw [List.getElem?_map, hkv]; rfl)
    have cs := h.st.cell q (.string tv) (by rw [List.getElem?_map, htv]; rfl)
    have f1 := h.kn.frozen q
    have f2 := h.st.frozen q
    have hs1 := h.st.other ⟨g1, q, none⟩ (.bool true) (Ne.symm h.sep.2.2)
    have cs2 := hs1.cell q (.string tv) (by rw [List.getElem?_map, htv]; rfl)
    have f3 := hs1.frozen q
    cases kv
    · have HS := Aid.hid h
      have HKV := Aid.hid hkv
      clear htv hkv h hs1
      go_enter Tryd.func13, Tryd.ntmps13
      try simp only [List.append_eq, List.cons_append, List.nil_append]
      have es : s.reach q t = some { s with kn := s.kn.set q true, st := s.st.set q t, td := s.td ++ [q] } := by
        unfold FSt.reach
        rw [if_pos hi]
        simp [HKV.out]
      have ES := Aid.hid es
      clear es
      obtain ⟨X, hX⟩ : ∃ X, ((w.setCell ⟨g1, q, none⟩ (.bool true)).setCell ⟨g2, q, none⟩ (.string t)).drew = X := ⟨_, rfl⟩
      have h := HS.out
      obtain ⟨n1, n2, n3⟩ := h.sep
      have has5 : Aid.Has X b [.slice x.fA x.faces.length x.fc, .slice x.cA x.classes.length x.cc, .slice x.dA x.codes.length x.dc, .slice x.nA x.insts.length x.nc, .string x.globals, .slice x.iA x.init.length x.ic, .slice x.bA x.blocks.length x.bc, .slice x.xA x.ins.length x.xc, .slice x.oA x.outs.length x.oc, .slice x.jA x.jobs.length x.jc, .int .i64 x.d, .int .i64 x.w, .int .i64 c.cls, .string c.params, .string c.locals, .bool c.ret, .int .i64 c.stack, .slice c.oA c.ops.length c.oc, .slice (some ⟨g1, 0, none⟩) s.kn.length s.kn.length, .slice (some ⟨g2, 0, none⟩) s.st.length s.st.length, .slice T s.td.length tc, .int .i64 s.most] 52 := by rw [← hX]; exact ((h.has.other ⟨g1, q, none⟩ (.bool true) n1).other ⟨g2, q, none⟩ (.string t) n2).drew
      have kn5 : Aid.Has X g1 ((s.kn.set q true).map Value.bool) 4 := by rw [← hX, List.map_set]; exact ((h.kn.set q (.bool true)).other ⟨g2, q, none⟩ (.string t) n3).drew
      have st5 : Aid.Has X g2 ((s.st.set q t).map Value.string) 9 := by rw [← hX, List.map_set]; exact ((h.st.other ⟨g1, q, none⟩ (.bool true) (Ne.symm n3)).set q (.string t)).drew
      have td5 : X.ownsRow w0.heap.size 3 1 (.slice T s.td.length tc) s.td.length (s.td.map fun n : Nat => Value.int .i64 (n : Int)) := by
        rw [← hX]; exact own_other (own_other h.td (fun p hp => (h.sept p hp).2.1) q (.bool true)) (fun p hp => (h.sept p hp).2.2) q (.string t)
      have bel5 : Below w0.heap.size w0 X := by
        rw [← hX]; exact ((h.below.setCell (p := ⟨g1, q, none⟩) h.low.2.1 (.bool true)).setCell (p := ⟨g2, q, none⟩) h.low.2.2 (.string t)).drew
      have hroom : s.td.length + 1 ≤ 1000 := by
        have h1 := h.room
        have h2 : 0 < s.kn.count false := List.count_pos_iff.2 (List.mem_of_getElem? HKV.out)
        omega
      have a20 := has5.cell 20 _ rfl
      have f20 := has5.frozen 20
      obtain ⟨i0, hi0, hz0, hz1, hz2⟩ := info_parts info_int
      have hnew := Aid.Has.new X [.int .i64 q] 3
      have hr2 : Reads (X.alloc (.cells #[.int .i64 q] 3)) (X.alloc (.cells #[.int .i64 q] 3)).heap.size 1 (some ⟨X.heap.size, 0, none⟩) 1 [.int .i64 q] := ⟨by simp, fun _ => ⟨⟨X.heap.size, 0, none⟩, rfl, by simp [World.size_alloc], fun j u hj => by
        rw [Go.WideShapes.add_plain, Nat.zero_add]; exact hnew.cell j u hj⟩⟩
      have hbs : w0.heap.size ≤ (X.alloc (.cells #[.int .i64 q] 3)).heap.size := Nat.le_trans bel5.size (by simp)
      have H5 := Aid.hid (⟨has5, kn5, st5, td5, bel5⟩ : _ ∧ _ ∧ _ ∧ _ ∧ _)
      have HR2 := Aid.hid hr2
      go_wp2_with fail
      go_region
      try rw [hX]
      clear hX has5 kn5 st5 td5 bel5 hnew hr2 h a17 a18 a19 ck cs cs2 f1 f2 f3
      go_wp2_with (at_builtin; refine wpList_append_any _ rfl _ _ 31 rfl w0.heap.size 3 i0 (.int .i64 0) 1 8 Tryd.underlying31 hi0 hz0 hz1 hz2 rfl (by decide) _ s.td.length _ rfl (H5.out.2.2.2.1.alloc _) _ (some ⟨X.heap.size, 0, none⟩) 1 1 [.int .i64 q] rfl HR2.out ?d1 ?d2 ?d3 hbs ?_)
      case d1 => intro u hu; simp at hu; subst hu; rfl
      case d2 => unfold maxLen; omega
      case d3 => omega
      intro v9 w9 ho9 hg9 hv9
      obtain ⟨T9, c9, rfl⟩ := own_slice ho9
      obtain ⟨has5, kn5, st5, td5, bel5⟩ := H5.out
      have h := HS.out
      have hb9 := has_grown (has5.alloc (.cells #[.int .i64 q] 3)) hg9 (fun e => (h.sept b e.symm).1 rfl)
      have hk9 := has_grown (kn5.alloc (.cells #[.int .i64 q] 3)) hg9 (fun e => (h.sept g1 e.symm).2.1 rfl)
      have ht9 := has_grown (st5.alloc (.cells #[.int .i64 q] 3)) hg9 (fun e => (h.sept g2 e.symm).2.2 rfl)
      have r20 := hb9.cell 20 _ rfl
      have rf := hb9.frozen 20
      have hbel9 : Below w0.heap.size w0 w9 := (bel5.alloc bel5.size _).grown hg9 hbs (fun p hp => (td5.lt p hp).1)
      have hsep9 : ∀ p, (Value.slice T9 (s.td.length + 1) c9).ownBlock = some p → p ≠ b ∧ p ≠ g1 ∧ p ≠ g2 := fun p hp => by
        rcases hv9 with e | e
        · exact h.sept p (by rw [← e]; exact hp)
        · rw [hp] at e
          have e2 : p = X.heap.size + 1 := by simpa [World.size_alloc] using e
          have l1 := has5.lt; have l2 := kn5.lt; have l3 := st5.lt
          omega
      have H9 := Aid.hid (⟨hb9, hk9, ht9, ho9, hbel9, hsep9⟩ : _ ∧ _ ∧ _ ∧ _ ∧ _ ∧ _)
      clear hb9 hk9 ht9 ho9 hbel9 hsep9 hg9 hv9 has5 kn5 st5 td5 bel5 h a20 f20 H5 HR2
      go_wp2_with fail
      go_ret
      obtain ⟨hb9, hk9, ht9, ho9, hbel9, hsep9⟩ := H9.out
      have h := HS.out
      obtain ⟨n1, n2, n3⟩ := h.sep
      refine Or.inr ⟨_, T9, c9, ES.out, rfl, ?_⟩
      refine ⟨?_, hk9.other ⟨b, 20, none⟩ _ (Ne.symm n1), ht9.other ⟨b, 20, none⟩ _ (Ne.symm n2), ?_, h.sep, ?_, h.low, hbel9.setCell (p := ⟨b, 20, none⟩) h.low.1 _, ?_, ?_, ?_, h.img, h.sm, h.cm, h.ml⟩
      · have := hb9.set 20 (.slice T9 (s.td.length + 1) c9)
        simpa using this
      · have := own_other ho9 (b := b) (fun p hp => (hsep9 p hp).1) 20 (.slice T9 (s.td.length + 1) c9)
        simpa using this
      · intro p hp
        exact hsep9 p (by simpa using hp)
      · simpa using h.len
      · intro u hu
        rcases List.mem_or_eq_of_mem_set hu with h1 | rfl
        · exact h.sz u h1
        · exact hts
      · have h1 := h.room
        have h2 : 0 < s.kn.count false := List.count_pos_iff.2 (List.mem_of_getElem? HKV.out)
        have h3 : (s.kn.set q true).count false = s.kn.count false - 1 := by
          rw [List.count_set hq]
          have := (List.getElem?_eq_some_iff.1 HKV.out).2
          simp [this]
        simp only [List.length_append, List.length_singleton, h3]
        omega
    · have er : s.reach q t = if s.st[q]? = some t then some s else none := by
        unfold FSt.reach
        rw [if_pos hi]
        simp [hkv]
      rw [htv] at er
      obtain ⟨R, hR⟩ : ∃ R, s.reach q t = R := ⟨_, rfl⟩
      rw [hR] at er ⊢
      have HS := Aid.hid h
      have ER := Aid.hid er
      clear htv hkv h er hR hs1 cs2 f1 f2 f3
      go_enter Tryd.func13, Tryd.ntmps13
      try simp only [List.append_eq, List.cons_append, List.nil_append]
      go_wp2_with fail
      go_ret
      by_cases ht : tv = t
      · subst ht
        refine Or.inr ⟨s, T, tc, ?_, ?_, HS.out⟩
        · rw [ER.out, if_pos rfl]
        · simp
      · refine Or.inl ⟨?_, ?_, rfl⟩
        · rw [ER.out, if_neg (fun e => ht (by simpa using e))]
        · have hb : (tv.toList == t.toList) = false := by
            rw [ByteArray.toList_eq, ByteArray.toList_eq]
            refine beq_eq_false_iff_ne.2 (fun e => ht ?_)
            exact ByteArray.ext (Array.ext' e)
          simp [hb]
  · rw [FSt.reach_out hi]
    have a17 := h.has.cell 17 _ rfl
    clear h
    by_cases hi0 : i < 0
    · clear hi
      go_enter Tryd.func13, Tryd.ntmps13
      try simp only [List.append_eq, List.cons_append, List.nil_append]
      go_wp2_with fail
      go_ret
      first | exact Or.inl ⟨rfl, rfl, rfl⟩ | exact Or.inl ⟨trivial, rfl, rfl⟩ | simp
    · have hi1 : (c.ops.length : Int) ≤ i := by omega
      clear hi
      go_enter Tryd.func13, Tryd.ntmps13
      try simp only [List.append_eq, List.cons_append, List.nil_append]
      go_wp2_with fail
      go_ret
      first | exact Or.inl ⟨rfl, rfl, rfl⟩ | exact Or.inl ⟨trivial, rfl, rfl⟩ | simp
end Go.Proofs.YtcgfabnmkbiogaaDoor
