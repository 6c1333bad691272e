/- Chain, as a walk. -/
import Derived.Test.YtmhdcehpddbjaaaTabB
namespace Go.Proofs.Ytmhdcehpddbjaaa
open Go.RowKit

theorem own_stays {w w' : World} {base n : Nat} {v : Value} {xs : List Value} (h : w.ownsRow base 3 1 v n xs) (hb : Below w.heap.size w w') : w'.ownsRow base 3 1 v n xs := by
  rcases h with ⟨h1, h2 | ⟨g, cp, cur, p1, p2, p3, p4⟩⟩
  · exact ⟨h1, Or.inl h2⟩
  · exact ⟨h1, Or.inr ⟨g, cp, cur, p1, p2, (hb.block g (Array.getElem?_eq_some_iff.1 p3).1).trans p3, p4⟩⟩
theorem own_lower {w : World} {H base n : Nat} {v : Value} {xs : List Value} (h : w.ownsRow H 3 1 v n xs) (hl : base ≤ H) : w.ownsRow base 3 1 v n xs := by
  rcases h with ⟨h1, h2 | ⟨g, cp, cur, p1, p2, p3⟩⟩
  · exact ⟨h1, Or.inl h2⟩
  · exact ⟨h1, Or.inr ⟨g, cp, cur, p1, by omega, p3⟩⟩

set_option maxRecDepth 100000 in
set_option maxHeartbeats 2000000 in
theorem chain_any (u : List Dk) (a : Option Addr) (B cap : Nat) (d0 : Int) (w : World) (hu : UnitAt w B a u) (hB : B ≤ w.heap.size) :
    Calls Try.prog 68 #[.agg #[.slice a u.length cap], .int .i64 d0] w fun e w' => ∃ A c zs, e = .returned (.slice A zs.length c) ∧ zs = Tb.chain u d0 ∧
      w'.ownsRow w.heap.size 3 1 (.slice A zs.length c) zs.length (zs.map (Value.int .i64)) ∧ Below w.heap.size w w' := by
  have HU := Aid.hid hu
  have sm := hu.small
  clear hu
  have B0 : Below w.heap.size w (w.alloc (.cells #[.slice a u.length cap] 24)) := (Below.refl _ _).alloc (Nat.le_refl _) _
  have P0 : Aid.Has (w.alloc (.cells #[.slice a u.length cap] 24)) w.heap.size [.slice a u.length cap] 24 := Aid.Has.new _ _ _
  have S0 : (w.alloc (.cells #[.slice a u.length cap] 24)).heap.size = w.heap.size + 1 := by simp
  go_enter Try.func68, Try.ntmps68
  try simp only [List.append_eq, List.cons_append, List.nil_append]
  obtain ⟨i0, hi, hz0, hz1, hz2⟩ := info_parts info_int
  go_wp2_with fail
  obtain ⟨pb, hpb⟩ : ∃ pb, w.heap.size = pb := ⟨_, rfl⟩
  generalize (w.alloc (.cells #[.slice a u.length cap] 24)) = w1 at *
  rw [hpb] at P0 S0 ⊢
  have O0 : w1.ownsRow (pb + 1) 3 1 (.slice none ([] : List Int).length 0) ([] : List Int).length (([] : List Int).map (Value.int .i64)) := World.ownsRow_nil _ _ _ _
  go_loopw [1, 5] (fun vd vl wr => ∃ (d : Int) (l : List Int) (A : Option Addr) (c : Nat), vd = .int .i64 d ∧ vl = .slice A l.length c ∧ Hid (Tb.ChainAt u d0 l d) ∧ Hid (wr.ownsRow (pb + 1) 3 1 (.slice A l.length c) l.length (l.map (Value.int .i64))) ∧
      Aid.Has wr pb [.slice a u.length cap] 24 ∧ Below w.heap.size w wr ∧ pb + 1 ≤ wr.heap.size) (fun _ vl _ => u.length + 1 - (match vl with | .slice _ n _ => n | _ => 0))
  case atStart => exact ⟨d0, [], none, 0, rfl, rfl, Aid.hid (Tb.ChainAt.start u d0), Aid.hid O0, P0, B0, Nat.le_of_eq S0.symm⟩
  case round =>
    clear O0 P0 B0 S0
    obtain ⟨d, l, A, c, rfl, rfl, CA, O, hp, hb, hsz⟩ := hrel
    have LN := CA.out.len
    have LN2 : l.length ≤ 1000000000 := by omega
    have cp := hp.cell 0 _ rfl
    obtain ⟨k, hk⟩ : ∃ k, Tb.kind u d = k := ⟨_, rfl⟩
    have HK := Aid.hid hk
    clear hk
    go_wp2_with fail
    refine (kind_is u a B cap d k _ HK.out (HU.out.below hb hB) (Nat.le_trans hB hb.size)).mono ?_; rintro e w2 ⟨rfl, hb2⟩
    have hp2 := hp.below hb2 hp.lt
    have O2 : Hid (w2.ownsRow (pb + 1) 3 1 (.slice A l.length c) l.length (l.map (Value.int .i64))) := Aid.hid (own_stays O.out hb2)
    have hsz2 := Nat.le_trans hsz hb2.size
    replace hb := hb.trans (hb2.mono hb.size)
    clear hp O hsz hb2 cp
    have cp := hp2.cell 0 _ rfl
    by_cases hk2 : k = 2
    · obtain ⟨r, hr⟩ : ∃ r, decide (d ∈ l) = r := ⟨_, rfl⟩
      have HR := Aid.hid hr
      clear hr
      subst hk2
      go_wp2_with fail
      refine (contains_is A c _ l d r _ HR.out (IntsAt.of_own O2.out) LN2).mono ?_; rintro e w3 ⟨rfl, rfl⟩
      cases r
      · obtain ⟨i, x, rfl, hx, hxk, hil⟩ := Tb.kind_in HK.out (by decide)
        have NX := Aid.hid (CA.out.next HK.out (of_decide_eq_false HR.out))
        have EB : Hid (Tb.base u i = x.base) := Aid.hid (by unfold Tb.base; simp [hx])
        go_wp2_with (at_builtin; refine wpList_append_own _ rfl _ _ 92 rfl (pb + 1) 3 i0 (.int .i64 0) 1 8 Try.underlying92 hi hz0 hz1 hz2 rfl (by decide) _ _ _ rfl (O2.out.alloc _) ⟨w2.heap.size, 0, none⟩ 1 1 [.int .i64 i] rfl rfl ?c1 ?c2 ?c3 ?c4 ?c5 ?_)
        case c1 =>
          intro j q hj
          match j, hj with
          | 0, hj => simp at hj; subst hj; simp [Addr.add]
        case c2 => intro q hq; simp at hq; subst hq; rfl
        case c3 => unfold maxLen; omega
        case c4 => omega
        case c5 => simp; omega
        · intro v' w3 hown' hgrow _
          have hp3 : Aid.Has w3 pb [.slice a u.length cap] 24 := (hgrow.block pb (by have := hp2.lt; simp; omega) (fun h => by have := (O2.out.lt pb h.symm).1; omega)).trans (hp2.alloc _)
          have hb3 : Below w.heap.size w w3 := (hb.alloc hb.size _).grown hgrow (by have := hb.size; simp; omega) (fun q hq => by have := (O2.out.lt q hq).1; omega)
          have hsz3 : pb + 1 ≤ w3.heap.size := by have := hgrow.size; simp at this; omega
          obtain ⟨g, cap', rfl, _, _⟩ := hown'.form (by omega)
          have O3 := Aid.hid hown'
          clear hp2 hb hsz2 hgrow cp O2 hown'
          have cp := hp3.cell 0 _ rfl
          obtain ⟨b, off, rfl, _, hc⟩ := (HU.out.below hb3 hB).at_ (by omega)
          have cb := hc i x hx 2 _ rfl
          have cpf := hp3.frozen
          clear hc
          go_wp2_with fail
          go_still_tail 7, (by kernel_rfl)
          change wpList _ _ _ _ _ w3.drew
          replace hb3 := hb3.drew
          replace hp3 := hp3.drew
          replace O3 : Hid (w3.drew.ownsRow (pb + 1) 3 1 (.slice (some ⟨g, 0, none⟩) (l.length + 1) cap') (l.length + 1) (l.map (Value.int .i64) ++ [.int .i64 i])) := O3
          replace hsz3 : pb + 1 ≤ w3.drew.heap.size := hsz3
          clear cp cb cpf
          generalize w3.drew = w4 at *
          go_wp2_with fail
          refine (find_is u _ B cap x.base _ _ rfl (HU.out.below hb3 hB) (Nat.le_trans hB hb3.size)).mono ?_; rintro e w5 ⟨rfl, hb5⟩
          have hp5 := hp3.below hb5 hp3.lt
          have O5 : Hid (w5.ownsRow (pb + 1) 3 1 (.slice (some ⟨g, 0, none⟩) (l.length + 1) cap') (l.length + 1) (l.map (Value.int .i64) ++ [.int .i64 i])) := Aid.hid (own_stays O3.out hb5)
          have hsz5 := Nat.le_trans hsz3 hb5.size
          replace hb3 := hb3.trans (hb5.mono hb3.size)
          clear hp3 O3 hsz3 hb5
          go_wp2_with fail
          go_roundw
          case rel => exact ⟨_, l ++ [(i : Int)], some ⟨g, 0, none⟩, cap', rfl, by simp, Aid.hid (by rw [← EB.out]; exact NX.out), Aid.hid (by simpa using O5.out), hp5, hb3, hsz5⟩
          case measure => simp; omega
      · have E := Aid.hid (CA.out.stop (fun h => h.2 (of_decide_eq_true HR.out)))
        go_wp2_with fail
        go_ret
        exact ⟨A, c, l, rfl, E.out, by rw [hpb]; exact own_lower O2.out (by omega), hb⟩
    · have E := Aid.hid (CA.out.stop (fun h => hk2 (HK.out.symm.trans h.1)))
      have hk3 : (k == 2) = false := by simpa using hk2
      go_wp2_with fail
      go_ret
      exact ⟨A, c, l, rfl, E.out, by rw [hpb]; exact own_lower O2.out (by omega), hb⟩
theorem chain_is (u : List Dk) (a : Option Addr) (B cap : Nat) (d0 : Int) (zs : List Int) (w : World) (hz : Tb.chain u d0 = zs) (hu : UnitAt w B a u) (hB : B ≤ w.heap.size) :
    Calls Try.prog 68 #[.agg #[.slice a u.length cap], .int .i64 d0] w fun e w' => ∃ A c, e = .returned (.slice A zs.length c) ∧
      w'.ownsRow w.heap.size 3 1 (.slice A zs.length c) zs.length (zs.map (Value.int .i64)) ∧ Below w.heap.size w w' := by
  subst hz
  refine (chain_any u a B cap d0 w hu hB).mono ?_
  rintro e w' ⟨A, c, zs, rfl, rfl, h⟩
  exact ⟨A, c, rfl, h⟩
end Go.Proofs.Ytmhdcehpddbjaaa
