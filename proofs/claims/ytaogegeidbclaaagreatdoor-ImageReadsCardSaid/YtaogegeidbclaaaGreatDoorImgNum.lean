/- A writer: what it holds, and numbers laid. -/
import Derived.Test.YtaogegeidbclaaaGreatDoorProg
import Derived.Test.YtaogegeidbclaaaGreatDoorAid
import Derived.Test.YtaogegeidbclaaaGreatDoorMem
import Derived.Test.YtaogegeidbclaaaGreatDoorIntsS
import Derived.WalkKit
import Derived.WalkSpells
import Derived.WalkLawsBesides
import Derived.LoopTactic
import Derived.OwnWalk
import Derived.BigQuiet
import Derived.WideShapes
namespace Go.Proofs.YtaogegeidbclaaaGreatDoor
open Go.RowKit

/-- The writer at p holds these bytes; whether a part may not be. -/
def Wt.At (w : World) (T : TypeId) (p : Nat) (bs : List Int) (bad : Bool) : Prop :=
  ∃ A c, Aid.Has w p [.slice A bs.length c, .bool bad] T ∧ w.ownsRow (p + 1) 5 1 (.slice A bs.length c) bs.length (bs.map (Value.int .u8))
/-- What a writer keeps: all below it, and all that is no bytes. -/
def Wt.Kp (p : Nat) (w w' : World) : Prop := Below p w w' ∧ ∀ b xs t, b ≠ p → t ≠ 5 → Aid.Has w b xs t → Aid.Has w' b xs t
theorem Wt.Kp.refl (p : Nat) (w : World) : Wt.Kp p w w := ⟨Below.refl _ _, fun _ _ _ _ _ h => h⟩
theorem Wt.Kp.trans {p : Nat} {a b c : World} (h : Wt.Kp p a b) (k : Wt.Kp p b c) : Wt.Kp p a c := ⟨h.1.trans k.1, fun i xs t h1 h2 h3 => k.2 i xs t h1 h2 (h.2 i xs t h1 h2 h3)⟩
theorem Wt.Kp.alloc {p : Nat} {a b : World} (h : Wt.Kp p a b) (hp : p ≤ b.heap.size) (o : Obj) : Wt.Kp p a (b.alloc o) := ⟨h.1.alloc hp o, fun i xs t h1 h2 h3 => (h.2 i xs t h1 h2 h3).alloc o⟩
theorem Wt.Kp.set {p : Nat} {a b : World} (h : Wt.Kp p a b) (j : Nat) (v : Value) : Wt.Kp p a (b.setCell ⟨p, j, none⟩ v) :=
  ⟨h.1.setCell (p := ⟨p, j, none⟩) (Nat.le_refl _) v, fun i xs t h1 h2 h3 => (h.2 i xs t h1 h2 h3).other ⟨p, j, none⟩ v h1⟩
theorem Wt.Kp.grown {p : Nat} {a b c : World} (h : Wt.Kp p a b) (hp : p ≤ b.heap.size) {n : Nat} {v : Value} {ys : List Value} (ho : b.ownsRow (p + 1) 5 1 v n ys) (hg : b.grownBy c v.ownBlock) : Wt.Kp p a c :=
  ⟨h.1.grown hg hp (fun q hq => by have := (ho.lt q hq).1; omega), fun i xs t h1 h2 h3 => by
    have h4 := h.2 i xs t h1 h2 h3
    refine (hg.block i h4.lt (fun e => ?_)).trans h4
    rcases ho.2 with ⟨rfl, _⟩ | ⟨g, cap, cur, rfl, _, hgb, _⟩
    · simp [Value.ownBlock] at e
    · obtain rfl : i = g := by simpa [Value.ownBlock] using e
      have h5 := (show b.heap[i]? = _ from h4).symm.trans hgb
      simp at h5
      exact h2 h5.2⟩
theorem own_other {w : World} {base e sz n b : Nat} {v : Value} {xs : List Value} (h : w.ownsRow base e sz v n xs) (hb : ∀ q, v.ownBlock = some q → q ≠ b) (j : Nat) (x : Value) : (w.setCell ⟨b, j, none⟩ x).ownsRow base e sz v n xs := by
  rcases h with ⟨h1, h2 | ⟨g, cp, cur, p1, p2, p3, p4⟩⟩
  · exact ⟨h1, Or.inl h2⟩
  · exact ⟨h1, Or.inr ⟨g, cp, cur, p1, p2, (Below.heap_setCell w ⟨b, j, none⟩ x g (hb g (by rw [p1]; rfl))).trans p3, p4⟩⟩
theorem own_slice {w : World} {base e sz n : Nat} {v : Value} {xs : List Value} (h : w.ownsRow base e sz v n xs) : ∃ A c, v = .slice A n c := by
  rcases h.2 with ⟨rfl, rfl⟩ | ⟨g, cap, cur, rfl, _⟩
  · exact ⟨none, 0, rfl⟩
  · exact ⟨_, _, rfl⟩
/-- A number's four bytes; whether it may not be laid. -/
def Wt.be (x : Int) : List Int := [x / 16777216 % 256, x / 65536 % 256, x / 256 % 256, x % 256]
def Wt.bad (b : Bool) (x : Int) : Bool := b || decide (x < -2147483648) || decide (2147483647 < x)
def Wt.lay (bs : List Int) (ns : List Int) : List Int := ns.foldl (fun l x => l ++ Wt.be x) bs
def Wt.bads (b : Bool) (ns : List Int) : Bool := ns.foldl Wt.bad b
theorem Wt.lay_snoc (bs ns : List Int) (x : Int) : Wt.lay bs (ns ++ [x]) = Wt.lay bs ns ++ Wt.be x := by simp [Wt.lay]
theorem Wt.bads_snoc (b : Bool) (ns : List Int) (x : Int) : Wt.bads b (ns ++ [x]) = Wt.bad (Wt.bads b ns) x := by simp [Wt.bads]
theorem Wt.lay_len (ns : List Int) : ∀ bs : List Int, (Wt.lay bs ns).length = bs.length + 4 * ns.length := by
  induction ns with
  | nil => intro bs; simp [Wt.lay]
  | cons x ns ih =>
    intro bs
    show (Wt.lay (bs ++ Wt.be x) ns).length = _
    rw [ih, List.length_append]; simp [Wt.be]; omega
theorem info_byte : (Tryz.prog.info? 5).map (fun i => (i.zero, i.size, i.bytes)) = some (some (.int .u8 0), 1, 1) := by kernel_rfl

set_option maxRecDepth 100000 in
set_option maxHeartbeats 4000000 in
/-- Numbers laid: four bytes each. -/
theorem wnum_is (p : Nat) (A : Option Addr) (c : Nat) (ns bs : List Int) (bad : Bool) (w : World) (hw : Wt.At w 63 p bs bad) (hn : ∀ w', Wt.Kp p w w' → IntsAt w' w'.heap.size A ns) (ln : ns.length ≤ 1000000000) (lb : bs.length + 4 * ns.length ≤ 100000000000000) :
    Calls Tryz.prog 66 #[.pointer (some ⟨p, 0, none⟩), .slice A ns.length c] w fun e w' => e = .returned (.tuple #[]) ∧ Wt.At w' 63 p (Wt.lay bs ns) (Wt.bads bad ns) ∧ Wt.Kp p w w' := by
  obtain ⟨i0, hi, hz0, hz1, hz2⟩ := info_parts info_byte
  have HN := Aid.hid hn
  clear hn
  go_enter Tryz.func66, Tryz.ntmps66
  try simp only [List.append_eq, List.cons_append, List.nil_append]
  go_wp2_with fail
  go_loopw [8] (fun vi wr => ∃ (k : Nat) (cs : List Int) (b : Bool), vi = .int .i64 k ∧ k ≤ ns.length ∧ Hid (Wt.lay bs (ns.take k) = cs) ∧ Hid (Wt.bads bad (ns.take k) = b) ∧ Hid (Wt.At wr 63 p cs b) ∧ Hid (Wt.Kp p w wr)) (fun vi _ => ns.length - (intOf vi).toNat)
  case atStart => exact ⟨0, bs, bad, rfl, Nat.zero_le _, Aid.hid rfl, Aid.hid rfl, Aid.hid hw, Aid.hid (Wt.Kp.refl _ _)⟩
  case round =>
    obtain ⟨k, cs, b, rfl, hk, E1, E2, HW, HK⟩ := hrel
    by_cases hlt : k < ns.length
    · have hl : cs.length ≤ bs.length + 4 * k := by rw [← E1.out, Wt.lay_len, List.length_take]; omega
      have EQ : Hid (cs = Wt.lay bs (ns.take k) ∧ b = Wt.bads bad (ns.take k)) := Aid.hid ⟨E1.out.symm, E2.out.symm⟩
      clear E1 E2
      obtain ⟨ad, rfl, _, hc⟩ := IntsAt.at_ (HN.out wr HK.out) hlt
      obtain ⟨x, hx⟩ : ∃ x, ns[k]? = some x := ⟨_, List.getElem?_eq_getElem hlt⟩
      have cx := hc k x hx
      obtain ⟨B, d, HP, HO⟩ := HW.out
      have p0 := HP.cell 0 _ rfl
      have p1 := HP.cell 1 _ rfl
      have pf := HP.frozen
      have hp := HP.lt
      have HX := Aid.hid hx
      clear hc hx hw HW
      cases b
      · by_cases h1 : x < -2147483648
        · skip
          have NB : Hid (Wt.bad false x = true) := Aid.hid (by unfold Wt.bad; simp; try omega)
          have HP1 : Aid.Has (wr.setCell ⟨p, 1, none⟩ (.bool true)) p [.slice B cs.length d, .bool true] 63 := HP.set 1 (.bool true)
          have HO1 : World.ownsRow (wr.setCell ⟨p, 1, none⟩ (.bool true)) (p + 1) 5 1 (.slice B cs.length d) cs.length (cs.map (Value.int .u8)) := own_other HO (fun q hq => by have := (HO.lt q hq).1; omega) 1 (.bool true)
          have K1 : Wt.Kp p w (wr.setCell ⟨p, 1, none⟩ (.bool true)) := HK.out.set 1 (.bool true)
          have q0 := HP1.cell 0 _ rfl
          have qf := HP1.frozen
          have hs1 : (wr.setCell ⟨p, 1, none⟩ (.bool true)).heap.size = wr.heap.size := by simp [World.setCell]
          have bc : ∀ (j : Nat) (u : Value), [.int .u8 (x / 16777216 % 256), .int .u8 (x / 65536 % 256), .int .u8 (x / 256 % 256), .int .u8 (x % 256)][j]? = some u → (World.alloc (wr.setCell ⟨p, 1, none⟩ (.bool true)) (.cells #[.int .u8 (x / 16777216 % 256), .int .u8 (x / 65536 % 256), .int .u8 (x / 256 % 256), .int .u8 (x % 256)] 5)).cell? (Addr.add ⟨wr.heap.size, 0, none⟩ j) = some u := fun j u hj => by
            rw [Go.WideShapes.add_plain, Nat.zero_add, ← hs1]
            exact (Aid.Has.new (wr.setCell ⟨p, 1, none⟩ (.bool true)) [.int .u8 (x / 16777216 % 256), .int .u8 (x / 65536 % 256), .int .u8 (x / 256 % 256), .int .u8 (x % 256)] 5).cell j u hj
          have pz : p + 1 ≤ (World.alloc (wr.setCell ⟨p, 1, none⟩ (.bool true)) (.cells #[.int .u8 (x / 16777216 % 256), .int .u8 (x / 65536 % 256), .int .u8 (x / 256 % 256), .int .u8 (x % 256)] 5)).heap.size := by rw [World.size_alloc, hs1]; omega
          go_wp2_with (at_builtin; refine wpList_append_own _ rfl _ _ 32 rfl (p + 1) 5 i0 (.int .u8 0) 1 1 Tryz.underlying32 hi hz0 hz1 hz2 rfl (by decide) _ _ _ rfl (HO1.alloc _) ⟨wr.heap.size, 0, none⟩ 4 4 [.int .u8 (x / 16777216 % 256), .int .u8 (x / 65536 % 256), .int .u8 (x / 256 % 256), .int .u8 (x % 256)] rfl rfl bc ?d1 ?d2 ?d3 pz ?_)
          case d1 => first | exact ⟨rfl, rfl, rfl, rfl⟩ | (intro u hu; simp at hu; rcases hu with rfl | rfl | rfl | rfl <;> rfl)
          case d2 => unfold maxLen; omega
          case d3 => omega
          · intro v2 w9 hown2 hgrow2 _
            obtain ⟨A2, c2, rfl⟩ := own_slice hown2
            have HP9 : Aid.Has w9 p [.slice B cs.length d, .bool true] 63 := (hgrow2.block p (by rw [World.size_alloc, hs1]; omega) (fun e => by have := (HO1.lt p e.symm).1; omega)).trans (HP1.alloc _)
            have K9 : Wt.Kp p w (w9.setCell ⟨p, 0, none⟩ (.slice A2 (cs.length + 4) c2)) := ((K1.alloc (by rw [hs1]; omega) (.cells #[.int .u8 (x / 16777216 % 256), .int .u8 (x / 65536 % 256), .int .u8 (x / 256 % 256), .int .u8 (x % 256)] 5)).grown (by rw [World.size_alloc, hs1]; omega) (HO1.alloc _) hgrow2).set 0 _
            have HA : Hid (Wt.At (w9.setCell ⟨p, 0, none⟩ (.slice A2 (cs.length + 4) c2)) 63 p (cs ++ Wt.be x) true) := Aid.hid ⟨A2, c2, by rw [List.length_append]; exact HP9.set 0 _, by
              rw [List.length_append, List.map_append]; exact own_other hown2 (fun q hq => by have := (hown2.lt q hq).1; omega) 0 _⟩
            have r0 := HP9.cell 0 _ rfl
            have rf := HP9.frozen
            have HK9 := Aid.hid K9
            clear hown2 hgrow2 HP9 K9 K1 HO1 HP1 q0 qf bc HO HP p0 p1 pf cx
            go_wp2_with fail
            go_roundw
            case rel => exact ⟨k + 1, cs ++ Wt.be x, _, by go_num, by omega, Aid.hid (by rw [List.take_add_one, HX.out, Option.toList_some, Wt.lay_snoc, ← EQ.out.1]), Aid.hid (by rw [List.take_add_one, HX.out, Option.toList_some, Wt.bads_snoc, ← EQ.out.2, NB.out]), HA, HK9⟩
            case measure => simp [intOf]; omega
        · by_cases h2 : 2147483647 < x
          · skip
            have NB : Hid (Wt.bad false x = true) := Aid.hid (by unfold Wt.bad; simp; try omega)
            have HP1 : Aid.Has (wr.setCell ⟨p, 1, none⟩ (.bool true)) p [.slice B cs.length d, .bool true] 63 := HP.set 1 (.bool true)
            have HO1 : World.ownsRow (wr.setCell ⟨p, 1, none⟩ (.bool true)) (p + 1) 5 1 (.slice B cs.length d) cs.length (cs.map (Value.int .u8)) := own_other HO (fun q hq => by have := (HO.lt q hq).1; omega) 1 (.bool true)
            have K1 : Wt.Kp p w (wr.setCell ⟨p, 1, none⟩ (.bool true)) := HK.out.set 1 (.bool true)
            have q0 := HP1.cell 0 _ rfl
            have qf := HP1.frozen
            have hs1 : (wr.setCell ⟨p, 1, none⟩ (.bool true)).heap.size = wr.heap.size := by simp [World.setCell]
            have bc : ∀ (j : Nat) (u : Value), [.int .u8 (x / 16777216 % 256), .int .u8 (x / 65536 % 256), .int .u8 (x / 256 % 256), .int .u8 (x % 256)][j]? = some u → (World.alloc (wr.setCell ⟨p, 1, none⟩ (.bool true)) (.cells #[.int .u8 (x / 16777216 % 256), .int .u8 (x / 65536 % 256), .int .u8 (x / 256 % 256), .int .u8 (x % 256)] 5)).cell? (Addr.add ⟨wr.heap.size, 0, none⟩ j) = some u := fun j u hj => by
              rw [Go.WideShapes.add_plain, Nat.zero_add, ← hs1]
              exact (Aid.Has.new (wr.setCell ⟨p, 1, none⟩ (.bool true)) [.int .u8 (x / 16777216 % 256), .int .u8 (x / 65536 % 256), .int .u8 (x / 256 % 256), .int .u8 (x % 256)] 5).cell j u hj
            have pz : p + 1 ≤ (World.alloc (wr.setCell ⟨p, 1, none⟩ (.bool true)) (.cells #[.int .u8 (x / 16777216 % 256), .int .u8 (x / 65536 % 256), .int .u8 (x / 256 % 256), .int .u8 (x % 256)] 5)).heap.size := by rw [World.size_alloc, hs1]; omega
            go_wp2_with (at_builtin; refine wpList_append_own _ rfl _ _ 32 rfl (p + 1) 5 i0 (.int .u8 0) 1 1 Tryz.underlying32 hi hz0 hz1 hz2 rfl (by decide) _ _ _ rfl (HO1.alloc _) ⟨wr.heap.size, 0, none⟩ 4 4 [.int .u8 (x / 16777216 % 256), .int .u8 (x / 65536 % 256), .int .u8 (x / 256 % 256), .int .u8 (x % 256)] rfl rfl bc ?d1 ?d2 ?d3 pz ?_)
            case d1 => first | exact ⟨rfl, rfl, rfl, rfl⟩ | (intro u hu; simp at hu; rcases hu with rfl | rfl | rfl | rfl <;> rfl)
            case d2 => unfold maxLen; omega
            case d3 => omega
            · intro v2 w9 hown2 hgrow2 _
              obtain ⟨A2, c2, rfl⟩ := own_slice hown2
              have HP9 : Aid.Has w9 p [.slice B cs.length d, .bool true] 63 := (hgrow2.block p (by rw [World.size_alloc, hs1]; omega) (fun e => by have := (HO1.lt p e.symm).1; omega)).trans (HP1.alloc _)
              have K9 : Wt.Kp p w (w9.setCell ⟨p, 0, none⟩ (.slice A2 (cs.length + 4) c2)) := ((K1.alloc (by rw [hs1]; omega) (.cells #[.int .u8 (x / 16777216 % 256), .int .u8 (x / 65536 % 256), .int .u8 (x / 256 % 256), .int .u8 (x % 256)] 5)).grown (by rw [World.size_alloc, hs1]; omega) (HO1.alloc _) hgrow2).set 0 _
              have HA : Hid (Wt.At (w9.setCell ⟨p, 0, none⟩ (.slice A2 (cs.length + 4) c2)) 63 p (cs ++ Wt.be x) true) := Aid.hid ⟨A2, c2, by rw [List.length_append]; exact HP9.set 0 _, by
                rw [List.length_append, List.map_append]; exact own_other hown2 (fun q hq => by have := (hown2.lt q hq).1; omega) 0 _⟩
              have r0 := HP9.cell 0 _ rfl
              have rf := HP9.frozen
              have HK9 := Aid.hid K9
              clear hown2 hgrow2 HP9 K9 K1 HO1 HP1 q0 qf bc HO HP p0 p1 pf cx
              go_wp2_with fail
              go_roundw
              case rel => exact ⟨k + 1, cs ++ Wt.be x, _, by go_num, by omega, Aid.hid (by rw [List.take_add_one, HX.out, Option.toList_some, Wt.lay_snoc, ← EQ.out.1]), Aid.hid (by rw [List.take_add_one, HX.out, Option.toList_some, Wt.bads_snoc, ← EQ.out.2, NB.out]), HA, HK9⟩
              case measure => simp [intOf]; omega
          · skip
            have NB : Hid (Wt.bad false x = false) := Aid.hid (by unfold Wt.bad; simp; try omega)
            have HP1 : Aid.Has (wr.setCell ⟨p, 1, none⟩ (.bool false)) p [.slice B cs.length d, .bool false] 63 := HP.set 1 (.bool false)
            have HO1 : World.ownsRow (wr.setCell ⟨p, 1, none⟩ (.bool false)) (p + 1) 5 1 (.slice B cs.length d) cs.length (cs.map (Value.int .u8)) := own_other HO (fun q hq => by have := (HO.lt q hq).1; omega) 1 (.bool false)
            have K1 : Wt.Kp p w (wr.setCell ⟨p, 1, none⟩ (.bool false)) := HK.out.set 1 (.bool false)
            have q0 := HP1.cell 0 _ rfl
            have qf := HP1.frozen
            have hs1 : (wr.setCell ⟨p, 1, none⟩ (.bool false)).heap.size = wr.heap.size := by simp [World.setCell]
            have bc : ∀ (j : Nat) (u : Value), [.int .u8 (x / 16777216 % 256), .int .u8 (x / 65536 % 256), .int .u8 (x / 256 % 256), .int .u8 (x % 256)][j]? = some u → (World.alloc (wr.setCell ⟨p, 1, none⟩ (.bool false)) (.cells #[.int .u8 (x / 16777216 % 256), .int .u8 (x / 65536 % 256), .int .u8 (x / 256 % 256), .int .u8 (x % 256)] 5)).cell? (Addr.add ⟨wr.heap.size, 0, none⟩ j) = some u := fun j u hj => by
              rw [Go.WideShapes.add_plain, Nat.zero_add, ← hs1]
              exact (Aid.Has.new (wr.setCell ⟨p, 1, none⟩ (.bool false)) [.int .u8 (x / 16777216 % 256), .int .u8 (x / 65536 % 256), .int .u8 (x / 256 % 256), .int .u8 (x % 256)] 5).cell j u hj
            have pz : p + 1 ≤ (World.alloc (wr.setCell ⟨p, 1, none⟩ (.bool false)) (.cells #[.int .u8 (x / 16777216 % 256), .int .u8 (x / 65536 % 256), .int .u8 (x / 256 % 256), .int .u8 (x % 256)] 5)).heap.size := by rw [World.size_alloc, hs1]; omega
            go_wp2_with (at_builtin; refine wpList_append_own _ rfl _ _ 32 rfl (p + 1) 5 i0 (.int .u8 0) 1 1 Tryz.underlying32 hi hz0 hz1 hz2 rfl (by decide) _ _ _ rfl (HO1.alloc _) ⟨wr.heap.size, 0, none⟩ 4 4 [.int .u8 (x / 16777216 % 256), .int .u8 (x / 65536 % 256), .int .u8 (x / 256 % 256), .int .u8 (x % 256)] rfl rfl bc ?d1 ?d2 ?d3 pz ?_)
            case d1 => first | exact ⟨rfl, rfl, rfl, rfl⟩ | (intro u hu; simp at hu; rcases hu with rfl | rfl | rfl | rfl <;> rfl)
            case d2 => unfold maxLen; omega
            case d3 => omega
            · intro v2 w9 hown2 hgrow2 _
              obtain ⟨A2, c2, rfl⟩ := own_slice hown2
              have HP9 : Aid.Has w9 p [.slice B cs.length d, .bool false] 63 := (hgrow2.block p (by rw [World.size_alloc, hs1]; omega) (fun e => by have := (HO1.lt p e.symm).1; omega)).trans (HP1.alloc _)
              have K9 : Wt.Kp p w (w9.setCell ⟨p, 0, none⟩ (.slice A2 (cs.length + 4) c2)) := ((K1.alloc (by rw [hs1]; omega) (.cells #[.int .u8 (x / 16777216 % 256), .int .u8 (x / 65536 % 256), .int .u8 (x / 256 % 256), .int .u8 (x % 256)] 5)).grown (by rw [World.size_alloc, hs1]; omega) (HO1.alloc _) hgrow2).set 0 _
              have HA : Hid (Wt.At (w9.setCell ⟨p, 0, none⟩ (.slice A2 (cs.length + 4) c2)) 63 p (cs ++ Wt.be x) false) := Aid.hid ⟨A2, c2, by rw [List.length_append]; exact HP9.set 0 _, by
                rw [List.length_append, List.map_append]; exact own_other hown2 (fun q hq => by have := (hown2.lt q hq).1; omega) 0 _⟩
              have r0 := HP9.cell 0 _ rfl
              have rf := HP9.frozen
              have HK9 := Aid.hid K9
              clear hown2 hgrow2 HP9 K9 K1 HO1 HP1 q0 qf bc HO HP p0 p1 pf cx
              go_wp2_with fail
              go_roundw
              case rel => exact ⟨k + 1, cs ++ Wt.be x, _, by go_num, by omega, Aid.hid (by rw [List.take_add_one, HX.out, Option.toList_some, Wt.lay_snoc, ← EQ.out.1]), Aid.hid (by rw [List.take_add_one, HX.out, Option.toList_some, Wt.bads_snoc, ← EQ.out.2, NB.out]), HA, HK9⟩
              case measure => simp [intOf]; omega
      · skip
        have NB : Hid (Wt.bad true x = true) := Aid.hid (by unfold Wt.bad; simp; try omega)
        have HP1 : Aid.Has (wr.setCell ⟨p, 1, none⟩ (.bool true)) p [.slice B cs.length d, .bool true] 63 := HP.set 1 (.bool true)
        have HO1 : World.ownsRow (wr.setCell ⟨p, 1, none⟩ (.bool true)) (p + 1) 5 1 (.slice B cs.length d) cs.length (cs.map (Value.int .u8)) := own_other HO (fun q hq => by have := (HO.lt q hq).1; omega) 1 (.bool true)
        have K1 : Wt.Kp p w (wr.setCell ⟨p, 1, none⟩ (.bool true)) := HK.out.set 1 (.bool true)
        have q0 := HP1.cell 0 _ rfl
        have qf := HP1.frozen
        have hs1 : (wr.setCell ⟨p, 1, none⟩ (.bool true)).heap.size = wr.heap.size := by simp [World.setCell]
        have bc : ∀ (j : Nat) (u : Value), [.int .u8 (x / 16777216 % 256), .int .u8 (x / 65536 % 256), .int .u8 (x / 256 % 256), .int .u8 (x % 256)][j]? = some u → (World.alloc (wr.setCell ⟨p, 1, none⟩ (.bool true)) (.cells #[.int .u8 (x / 16777216 % 256), .int .u8 (x / 65536 % 256), .int .u8 (x / 256 % 256), .int .u8 (x % 256)] 5)).cell? (Addr.add ⟨wr.heap.size, 0, none⟩ j) = some u := fun j u hj => by
          rw [Go.WideShapes.add_plain, Nat.zero_add, ← hs1]
          exact (Aid.Has.new (wr.setCell ⟨p, 1, none⟩ (.bool true)) [.int .u8 (x / 16777216 % 256), .int .u8 (x / 65536 % 256), .int .u8 (x / 256 % 256), .int .u8 (x % 256)] 5).cell j u hj
        have pz : p + 1 ≤ (World.alloc (wr.setCell ⟨p, 1, none⟩ (.bool true)) (.cells #[.int .u8 (x / 16777216 % 256), .int .u8 (x / 65536 % 256), .int .u8 (x / 256 % 256), .int .u8 (x % 256)] 5)).heap.size := by rw [World.size_alloc, hs1]; omega
        go_wp2_with (at_builtin; refine wpList_append_own _ rfl _ _ 32 rfl (p + 1) 5 i0 (.int .u8 0) 1 1 Tryz.underlying32 hi hz0 hz1 hz2 rfl (by decide) _ _ _ rfl (HO1.alloc _) ⟨wr.heap.size, 0, none⟩ 4 4 [.int .u8 (x / 16777216 % 256), .int .u8 (x / 65536 % 256), .int .u8 (x / 256 % 256), .int .u8 (x % 256)] rfl rfl bc ?d1 ?d2 ?d3 pz ?_)
        case d1 => first | exact ⟨rfl, rfl, rfl, rfl⟩ | (intro u hu; simp at hu; rcases hu with rfl | rfl | rfl | rfl <;> rfl)
        case d2 => unfold maxLen; omega
        case d3 => omega
        · intro v2 w9 hown2 hgrow2 _
          obtain ⟨A2, c2, rfl⟩ := own_slice hown2
          have HP9 : Aid.Has w9 p [.slice B cs.length d, .bool true] 63 := (hgrow2.block p (by rw [World.size_alloc, hs1]; omega) (fun e => by have := (HO1.lt p e.symm).1; omega)).trans (HP1.alloc _)
          have K9 : Wt.Kp p w (w9.setCell ⟨p, 0, none⟩ (.slice A2 (cs.length + 4) c2)) := ((K1.alloc (by rw [hs1]; omega) (.cells #[.int .u8 (x / 16777216 % 256), .int .u8 (x / 65536 % 256), .int .u8 (x / 256 % 256), .int .u8 (x % 256)] 5)).grown (by rw [World.size_alloc, hs1]; omega) (HO1.alloc _) hgrow2).set 0 _
          have HA : Hid (Wt.At (w9.setCell ⟨p, 0, none⟩ (.slice A2 (cs.length + 4) c2)) 63 p (cs ++ Wt.be x) true) := Aid.hid ⟨A2, c2, by rw [List.length_append]; exact HP9.set 0 _, by
            rw [List.length_append, List.map_append]; exact own_other hown2 (fun q hq => by have := (hown2.lt q hq).1; omega) 0 _⟩
          have r0 := HP9.cell 0 _ rfl
          have rf := HP9.frozen
          have HK9 := Aid.hid K9
          clear hown2 hgrow2 HP9 K9 K1 HO1 HP1 q0 qf bc HO HP p0 p1 pf cx
          go_wp2_with fail
          go_roundw
          case rel => exact ⟨k + 1, cs ++ Wt.be x, _, by go_num, by omega, Aid.hid (by rw [List.take_add_one, HX.out, Option.toList_some, Wt.lay_snoc, ← EQ.out.1]), Aid.hid (by rw [List.take_add_one, HX.out, Option.toList_some, Wt.bads_snoc, ← EQ.out.2, NB.out]), HA, HK9⟩
          case measure => simp [intOf]; omega
    · have hkk : k = ns.length := by omega
      have F1 : Hid (cs = Wt.lay bs ns) := Aid.hid (by rw [← E1.out, List.take_of_length_le (by omega)])
      have F2 : Hid (b = Wt.bads bad ns) := Aid.hid (by rw [← E2.out, List.take_of_length_le (by omega)])
      clear hkk E1 E2
      go_wp2_with fail
      go_end0
      exact ⟨rfl, by rw [← F1.out, ← F2.out]; exact HW.out, HK.out⟩
end Go.Proofs.YtaogegeidbclaaaGreatDoor
