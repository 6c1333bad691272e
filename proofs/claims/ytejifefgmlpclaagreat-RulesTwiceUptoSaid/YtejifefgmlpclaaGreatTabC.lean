/- A class's chain, in plain Lean. -/
import Derived.Test.YtejifefgmlpclaaGreatTabA
import Derived.Test.YtejifefgmlpclaaGreatInts
import Derived.StillTailTactics
set_option linter.unusedSimpArgs false
set_option linter.unusedVariables false
namespace Go.Proofs.YtejifefgmlpclaaGreat

theorem Tb.nodup_len : ∀ (n : Nat) (l : List Int), l.Nodup → (∀ x ∈ l, 0 ≤ x ∧ x < n) → l.length ≤ n
  | 0, l, _, h => by
    cases l with
    | nil => simp
    | cons a l => have := h a (by simp); omega
  | n + 1, l, hn, h => by
    by_cases hm : (n : Int) ∈ l
    · have := Tb.nodup_len n (l.erase n) (hn.erase (n : Int)) (fun x hx => by
        have h1 := List.mem_of_mem_erase hx
        have h2 : x ≠ n := ((hn.mem_erase_iff).1 hx).1
        have := h x h1
        omega)
      rw [List.length_erase_of_mem hm] at this
      omega
    · exact Nat.le_trans (Tb.nodup_len n l hn (fun x hx => by
        have := h x hx
        have h2 : x ≠ n := fun e => hm (e ▸ hx)
        omega)) (Nat.le_succ n)

/-- The base of declaration number d. -/
def Tb.base (u : List Dk) (d : Int) : ByteArray := match u[d.toNat]? with | some x => x.base | none => .empty
def Tb.chainGo (u : List Dk) : Nat → List Int → Int → List Int
  | 0, l, _ => l
  | f + 1, l, d => if Tb.kind u d = 2 ∧ d ∉ l then Tb.chainGo u f (l ++ [d]) (Tb.find u (Tb.base u d)) else l
/-- A class, its base, and so on. -/
def Tb.chain (u : List Dk) (d : Int) : List Int := Tb.chainGo u (u.length + 1) [] d
theorem Tb.kind_in {u : List Dk} {d k : Int} (h : Tb.kind u d = k) (hk : k ≠ 0) : ∃ (i : Nat) (x : Dk), d = i ∧ u[i]? = some x ∧ x.kind = k ∧ i < u.length := by
  unfold Tb.kind at h
  by_cases h0 : 0 ≤ d
  · rw [if_pos h0] at h
    obtain ⟨i, rfl⟩ := Int.eq_ofNat_of_zero_le h0
    simp only [Int.toNat_natCast] at h
    cases hx : u[i]? with
    | none => rw [hx] at h; exact absurd h.symm hk
    | some x => rw [hx] at h; exact ⟨i, x, rfl, hx, h, (List.getElem?_eq_some_iff.1 hx).1⟩
  · rw [if_neg h0] at h; exact absurd h.symm hk
/-- What the walk keeps of the list. -/
structure Tb.ChainAt (u : List Dk) (d0 : Int) (l : List Int) (d : Int) : Prop where
  go : Tb.chainGo u (u.length + 1 - l.length) l d = Tb.chain u d0
  nodup : l.Nodup
  inn : ∀ x ∈ l, 0 ≤ x ∧ x < u.length
theorem Tb.ChainAt.start (u : List Dk) (d : Int) : Tb.ChainAt u d [] d := ⟨rfl, List.nodup_nil, by simp⟩
theorem Tb.ChainAt.len {u : List Dk} {d0 d : Int} {l : List Int} (h : Tb.ChainAt u d0 l d) : l.length ≤ u.length := Tb.nodup_len _ _ h.nodup h.inn
theorem Tb.ChainAt.stop {u : List Dk} {d0 d : Int} {l : List Int} (h : Tb.ChainAt u d0 l d) (hs : ¬ (Tb.kind u d = 2 ∧ d ∉ l)) : l = Tb.chain u d0 := by
  have hl := h.len
  rw [← h.go, show u.length + 1 - l.length = (u.length - l.length) + 1 by omega, Tb.chainGo, if_neg hs]
theorem Tb.ChainAt.next {u : List Dk} {d0 d : Int} {l : List Int} (h : Tb.ChainAt u d0 l d) (hk : Tb.kind u d = 2) (hm : d ∉ l) : Tb.ChainAt u d0 (l ++ [d]) (Tb.find u (Tb.base u d)) := by
  have hl := h.len
  obtain ⟨i, x, rfl, _, _, hi⟩ := Tb.kind_in hk (by decide)
  refine ⟨?_, ?_, ?_⟩
  · rw [← h.go, show u.length + 1 - l.length = (u.length + 1 - (l ++ [(i : Int)]).length) + 1 by simp; omega, Tb.chainGo, if_pos ⟨hk, hm⟩]
  · rw [List.nodup_append]
    exact ⟨h.nodup, by simp, fun a ha b hb => by
      have : b = i := by simpa using hb
      subst this
      exact fun e => hm (e ▸ ha)⟩
  · intro y hy
    rcases List.mem_append.1 hy with hy | hy
    · exact h.inn y hy
    · have : y = i := by simpa using hy
      omega
theorem Tb.chain_in (u : List Dk) (d : Int) : ∀ x ∈ Tb.chain u d, 0 ≤ x ∧ x < u.length ∧ Tb.kind u x = 2 := by
  have key : ∀ (f : Nat) (l : List Int) (e : Int), (∀ x : Int, x ∈ l → 0 ≤ x ∧ x < u.length ∧ Tb.kind u x = 2) → ∀ x : Int, x ∈ Tb.chainGo u f l e → 0 ≤ x ∧ x < u.length ∧ Tb.kind u x = 2 := by
    intro f
    induction f with
    | zero => intro l e h; exact h
    | succ f ih =>
      intro l e h
      unfold Tb.chainGo
      by_cases hs : Tb.kind u e = 2 ∧ e ∉ l
      · rw [if_pos hs]
        refine ih _ _ fun x hx => ?_
        rcases List.mem_append.1 hx with hx | hx
        · exact h x hx
        · obtain rfl : x = e := by simpa using hx
          obtain ⟨i, y, rfl, _, _, hi⟩ := Tb.kind_in hs.1 (by decide)
          exact ⟨by omega, by omega, hs.1⟩
      · rw [if_neg hs]; exact h
  exact key _ _ _ (by simp)
theorem Tb.chain_nodup (u : List Dk) (d : Int) : (Tb.chain u d).Nodup := by
  have key : ∀ (f : Nat) (l : List Int) (e : Int), l.Nodup → (Tb.chainGo u f l e).Nodup := by
    intro f
    induction f with
    | zero => intro l e h; exact h
    | succ f ih =>
      intro l e h
      unfold Tb.chainGo
      by_cases hs : Tb.kind u e = 2 ∧ e ∉ l
      · rw [if_pos hs]
        refine ih _ _ ?_
        rw [List.nodup_append]
        exact ⟨h, by simp, fun a ha b hb => by
          have : b = e := by simpa using hb
          subst this
          exact fun e => hs.2 (e ▸ ha)⟩
      · rw [if_neg hs]; exact h
  exact key _ _ _ List.nodup_nil
theorem Tb.chain_len (u : List Dk) (d : Int) : (Tb.chain u d).length ≤ u.length := Tb.nodup_len _ _ (Tb.chain_nodup u d) (fun x hx => ⟨(Tb.chain_in u d x hx).1, (Tb.chain_in u d x hx).2.1⟩)
end Go.Proofs.YtejifefgmlpclaaGreat
/- kind, slices.Contains, Chain, as walks. -/
namespace Go.Proofs.YtejifefgmlpclaaGreat
open Go.RowKit

set_option maxRecDepth 100000 in
set_option maxHeartbeats 1000000 in
theorem kind_any (u : List Dk) (a : Option Addr) (B cap : Nat) (d : Int) (w : World) (hu : UnitAt w B a u) (hB : B ≤ w.heap.size) :
    Calls Tryz.prog 64 #[.agg #[.slice a u.length cap], .int .i64 d] w fun e w' => e = .returned (.int .i64 (Tb.kind u d)) ∧ Below w.heap.size w w' := by
  have HU := Aid.hid hu
  have sm := hu.small
  clear hu
  have hb : Below w.heap.size w (w.alloc (.cells #[.slice a u.length cap] 24)) := (Below.refl _ _).alloc (Nat.le_refl _) _
  by_cases h0 : 0 ≤ d
  · obtain ⟨i, rfl⟩ := Int.eq_ofNat_of_zero_le h0
    by_cases hi : i < u.length
    · obtain ⟨x, hx⟩ : ∃ x, u[i]? = some x := ⟨_, List.getElem?_eq_getElem hi⟩
      have E : Hid (Tb.kind u i = x.kind) := Aid.hid (by unfold Tb.kind; rw [if_pos h0]; simp [hx])
      obtain ⟨b, off, rfl, _, hc⟩ := (HU.out.below hb hB).at_ (by omega)
      have c0 := hc i x hx 0 _ rfl
      simp only [Nat.add_zero] at c0
      have HB := Aid.hid hb
      clear hc hx hb
      go_enter Tryz.func64, Tryz.ntmps64
      go_wp2_with fail
      go_ret
      exact ⟨by rw [E.out]; rfl, HB.out⟩
    · have E : Hid (Tb.kind u i = 0) := Aid.hid (by unfold Tb.kind; rw [if_pos h0]; simp [List.getElem?_eq_none (Nat.le_of_not_lt hi)])
      have HB := Aid.hid hb
      clear hb
      go_enter Tryz.func64, Tryz.ntmps64
      go_wp2_with fail
      go_ret
      exact ⟨by rw [E.out]; rfl, HB.out⟩
  · have E : Hid (Tb.kind u d = 0) := Aid.hid (by unfold Tb.kind; rw [if_neg h0])
    have HB := Aid.hid hb
    clear hb
    go_enter Tryz.func64, Tryz.ntmps64
    go_wp2_with fail
    go_ret
    exact ⟨by rw [E.out]; rfl, HB.out⟩
theorem kind_is (u : List Dk) (a : Option Addr) (B cap : Nat) (d r : Int) (w : World) (hr : Tb.kind u d = r) (hu : UnitAt w B a u) (hB : B ≤ w.heap.size) :
    Calls Tryz.prog 64 #[.agg #[.slice a u.length cap], .int .i64 d] w fun e w' => e = .returned (.int .i64 r) ∧ Below w.heap.size w w' := by
  rw [← hr]; exact kind_any u a B cap d w hu hB

set_option maxRecDepth 100000 in
set_option maxHeartbeats 1000000 in
theorem index_any (A : Option Addr) (c B : Nat) (zs : List Int) (x : Int) (w : World) (h : IntsAt w B A zs) (hl : zs.length ≤ 1000000000) :
    Calls Tryz.prog 74 #[.slice A zs.length c, .int .i64 x] w fun e w' => ∃ k, e = .returned (.int .i64 k) ∧ decide (0 ≤ k) = decide (x ∈ zs) ∧ w = w' := by
  have H := Aid.hid h
  clear h
  go_enter Tryz.func74, Tryz.ntmps74
  try simp only [List.append_eq, List.cons_append, List.nil_append]
  go_wp2_with fail
  go_loopw [8] (fun i wr => ∃ k : Nat, i = .int .i64 k ∧ k ≤ zs.length ∧ Hid (x ∉ zs.take k) ∧ wr = w) (fun i _ => zs.length - (intOf i).toNat)
  case atStart => exact ⟨0, rfl, Nat.zero_le _, Aid.hid (by simp), rfl⟩
  case round =>
    obtain ⟨k, rfl, hk, N, rfl⟩ := hrel
    by_cases hlt : k < zs.length
    · obtain ⟨ad, rfl, _, hc⟩ := H.out.at_ hlt
      obtain ⟨z, hz⟩ : ∃ z, zs[k]? = some z := ⟨_, List.getElem?_eq_getElem hlt⟩
      have c1 := hc k z hz
      have HZ := Aid.hid hz
      clear hc hz
      by_cases he : x = z
      · have E := Aid.hid (show decide (x ∈ zs) = true from decide_eq_true (he ▸ List.mem_of_getElem? HZ.out))
        subst he
        go_wp2_with fail
        go_ret
        exact ⟨k, rfl, by rw [E.out]; simp, rfl⟩
      · have NX : Hid (x ∉ zs.take (k + 1)) := Aid.hid (by
          rw [List.take_add_one, HZ.out]
          intro hm
          rcases List.mem_append.1 hm with h | h
          · exact N.out h
          · have h2 : x = z := by simpa using h
            exact he h2)
        have hb : (x == z) = false := by simpa using he
        go_wp2_with fail
        go_roundw
        case rel => exact ⟨k + 1, by go_num, by omega, NX, trivial⟩
        case measure => simp [intOf]; omega
    · have E : Hid (decide (x ∈ zs) = false) := Aid.hid (decide_eq_false (by have := N.out; rwa [List.take_of_length_le (by omega)] at this))
      go_wp2_with fail
      go_ret
      exact ⟨-1, rfl, by rw [E.out]; rfl, rfl⟩
theorem contains_is (A : Option Addr) (c B : Nat) (zs : List Int) (x : Int) (r : Bool) (w : World) (hr : decide (x ∈ zs) = r) (h : IntsAt w B A zs) (hl : zs.length ≤ 1000000000) :
    Calls Tryz.prog 67 #[.slice A zs.length c, .int .i64 x] w fun e w' => e = .returned (.bool r) ∧ w = w' := by
  have H := Aid.hid h
  have HR := Aid.hid hr
  clear h hr
  go_enter Tryz.func67, Tryz.ntmps67
  go_wp2_with fail
  refine (index_any A c B zs x w H.out hl).mono ?_; rintro e w' ⟨k, rfl, hk, rfl⟩
  go_wp2_with fail
  go_ret
  exact ⟨Aid.ret_bool (by first | (rw [← HR.out]; done) | (rw [← HR.out]; exact hk)), rfl⟩
end Go.Proofs.YtejifefgmlpclaaGreat
/- Chain, as a walk. -/
namespace Go.Proofs.YtejifefgmlpclaaGreat
open Go.RowKit

theorem own_stays {w w' : World} {base n : Nat} {v : Value} {xs : List Value} (h : w.ownsRow base 3 1 v n xs) (hb : Below w.heap.size w w') : w'.ownsRow base 3 1 v n xs := by
  rcases h with ⟨h1, h2 | ⟨g, cp, cur, p1, p2, p3, p4⟩⟩
  · exact ⟨h1, Or.inl h2⟩
  · exact ⟨h1, Or.inr ⟨g, cp, cur, p1, p2, (hb.block g (Array.getElem?_eq_some_iff.1 p3).1).trans p3, p4⟩⟩
theorem own_lower {w : World} {H base n : Nat} {v : Value} {xs : List Value} (h : w.ownsRow H 3 1 v n xs) (hl : base ≤ H) : w.ownsRow base 3 1 v n xs := by
  rcases h with ⟨h1, h2 | ⟨g, cp, cur, p1, p2, p3⟩⟩
  · exact ⟨h1, Or.inl h2⟩
  · exact ⟨h1, Or.inr ⟨g, cp, cur, p1, by omega, p3⟩⟩

set_option maxRecDepth 100000 in
set_option maxHeartbeats 2000000 in
theorem chain_any (u : List Dk) (a : Option Addr) (B cap : Nat) (d0 : Int) (w : World) (hu : UnitAt w B a u) (hB : B ≤ w.heap.size) :
    Calls Tryz.prog 55 #[.agg #[.slice a u.length cap], .int .i64 d0] w fun e w' => ∃ A c zs, e = .returned (.slice A zs.length c) ∧ zs = Tb.chain u d0 ∧
      w'.ownsRow w.heap.size 3 1 (.slice A zs.length c) zs.length (zs.map (Value.int .i64)) ∧ Below w.heap.size w w' := by
  have HU := Aid.hid hu
  have sm := hu.small
  clear hu
  have B0 : Below w.heap.size w (w.alloc (.cells #[.slice a u.length cap] 24)) := (Below.refl _ _).alloc (Nat.le_refl _) _
  have P0 : Aid.Has (w.alloc (.cells #[.slice a u.length cap] 24)) w.heap.size [.slice a u.length cap] 24 := Aid.Has.new _ _ _
  have S0 : (w.alloc (.cells #[.slice a u.length cap] 24)).heap.size = w.heap.size + 1 := by simp
  go_enter Tryz.func55, Tryz.ntmps55
  try simp only [List.append_eq, List.cons_append, List.nil_append]
  obtain ⟨i0, hi, hz0, hz1, hz2⟩ := info_parts info_int
  go_wp2_with fail
  obtain ⟨pb, hpb⟩ : ∃ pb, w.heap.size = pb := ⟨_, rfl⟩
  generalize (w.alloc (.cells #[.slice a u.length cap] 24)) = w1 at *
  rw [hpb] at P0 S0 ⊢
  have O0 : w1.ownsRow (pb + 1) 3 1 (.slice none ([] : List Int).length 0) ([] : List Int).length (([] : List Int).map (Value.int .i64)) := World.ownsRow_nil _ _ _ _
  go_loopw [1, 5] (fun vd vl wr => ∃ (d : Int) (l : List Int) (A : Option Addr) (c : Nat), vd = .int .i64 d ∧ vl = .slice A l.length c ∧ Hid (Tb.ChainAt u d0 l d) ∧ Hid (wr.ownsRow (pb + 1) 3 1 (.slice A l.length c) l.length (l.map (Value.int .i64))) ∧
      Aid.Has wr pb [.slice a u.length cap] 24 ∧ Below w.heap.size w wr ∧ pb + 1 ≤ wr.heap.size) (fun _ vl _ => u.length + 1 - (match vl with | .slice _ n _ => n | _ => 0))
  case atStart => exact ⟨d0, [], none, 0, rfl, rfl, Aid.hid (Tb.ChainAt.start u d0), Aid.hid O0, P0, B0, Nat.le_of_eq S0.symm⟩
  case round =>
    clear O0 P0 B0 S0
    obtain ⟨d, l, A, c, rfl, rfl, CA, O, hp, hb, hsz⟩ := hrel
    have LN := CA.out.len
    have LN2 : l.length ≤ 1000000000 := by omega
    have cp := hp.cell 0 _ rfl
    obtain ⟨k, hk⟩ : ∃ k, Tb.kind u d = k := ⟨_, rfl⟩
    have HK := Aid.hid hk
    clear hk
    go_wp2_with fail
    refine (kind_is u a B cap d k _ HK.out (HU.out.below hb hB) (Nat.le_trans hB hb.size)).mono ?_; rintro e w2 ⟨rfl, hb2⟩
    have hp2 := hp.below hb2 hp.lt
    have O2 : Hid (w2.ownsRow (pb + 1) 3 1 (.slice A l.length c) l.length (l.map (Value.int .i64))) := Aid.hid (own_stays O.out hb2)
    have hsz2 := Nat.le_trans hsz hb2.size
    replace hb := hb.trans (hb2.mono hb.size)
    clear hp O hsz hb2 cp
    have cp := hp2.cell 0 _ rfl
    by_cases hk2 : k = 2
    · obtain ⟨r, hr⟩ : ∃ r, decide (d ∈ l) = r := ⟨_, rfl⟩
      have HR := Aid.hid hr
      clear hr
      subst hk2
      go_wp2_with fail
      refine (contains_is A c _ l d r _ HR.out (IntsAt.of_own O2.out) LN2).mono ?_; rintro e w3 ⟨rfl, rfl⟩
      cases r
      · obtain ⟨i, x, rfl, hx, hxk, hil⟩ := Tb.kind_in HK.out (by decide)
        have NX := Aid.hid (CA.out.next HK.out (of_decide_eq_false HR.out))
        have EB : Hid (Tb.base u i = x.base) := Aid.hid (by unfold Tb.base; simp [hx])
        go_wp2_with (at_builtin; refine wpList_append_own _ rfl _ _ 62 rfl (pb + 1) 3 i0 (.int .i64 0) 1 8 Tryz.underlying62 hi hz0 hz1 hz2 rfl (by decide) _ _ _ rfl (O2.out.alloc _) ⟨w2.heap.size, 0, none⟩ 1 1 [.int .i64 i] rfl rfl ?c1 ?c2 ?c3 ?c4 ?c5 ?_)
        case c1 =>
          intro j q hj
          match j, hj with
          | 0, hj => simp at hj; subst hj; simp [Addr.add]
        case c2 => intro q hq; simp at hq; subst hq; rfl
        case c3 => unfold maxLen; omega
        case c4 => omega
        case c5 => simp; omega
        · intro v' w3 hown' hgrow _
          have hp3 : Aid.Has w3 pb [.slice a u.length cap] 24 := (hgrow.block pb (by have := hp2.lt; simp; omega) (fun h => by have := (O2.out.lt pb h.symm).1; omega)).trans (hp2.alloc _)
          have hb3 : Below w.heap.size w w3 := (hb.alloc hb.size _).grown hgrow (by have := hb.size; simp; omega) (fun q hq => by have := (O2.out.lt q hq).1; omega)
          have hsz3 : pb + 1 ≤ w3.heap.size := by have := hgrow.size; simp at this; omega
          obtain ⟨g, cap', rfl, _, _⟩ := hown'.form (by omega)
          have O3 := Aid.hid hown'
          clear hp2 hb hsz2 hgrow cp O2 hown'
          have cp := hp3.cell 0 _ rfl
          obtain ⟨b, off, rfl, _, hc⟩ := (HU.out.below hb3 hB).at_ (by omega)
          have cb := hc i x hx 2 _ rfl
          have cpf := hp3.frozen
          clear hc
          go_wp2_with fail
          go_still_tail 7, (by kernel_rfl)
          change wpList _ _ _ _ _ w3.drew
          replace hb3 := hb3.drew
          replace hp3 := hp3.drew
          replace O3 : Hid (w3.drew.ownsRow (pb + 1) 3 1 (.slice (some ⟨g, 0, none⟩) (l.length + 1) cap') (l.length + 1) (l.map (Value.int .i64) ++ [.int .i64 i])) := O3
          replace hsz3 : pb + 1 ≤ w3.drew.heap.size := hsz3
          clear cp cb cpf
          generalize w3.drew = w4 at *
          go_wp2_with fail
          refine (find_is u _ B cap x.base _ _ rfl (HU.out.below hb3 hB) (Nat.le_trans hB hb3.size)).mono ?_; rintro e w5 ⟨rfl, hb5⟩
          have hp5 := hp3.below hb5 hp3.lt
          have O5 : Hid (w5.ownsRow (pb + 1) 3 1 (.slice (some ⟨g, 0, none⟩) (l.length + 1) cap') (l.length + 1) (l.map (Value.int .i64) ++ [.int .i64 i])) := Aid.hid (own_stays O3.out hb5)
          have hsz5 := Nat.le_trans hsz3 hb5.size
          replace hb3 := hb3.trans (hb5.mono hb3.size)
          clear hp3 O3 hsz3 hb5
          go_wp2_with fail
          go_roundw
          case rel => exact ⟨_, l ++ [(i : Int)], some ⟨g, 0, none⟩, cap', rfl, by simp, Aid.hid (by rw [← EB.out]; exact NX.out), Aid.hid (by simpa using O5.out), hp5, hb3, hsz5⟩
          case measure => simp; omega
      · have E := Aid.hid (CA.out.stop (fun h => h.2 (of_decide_eq_true HR.out)))
        go_wp2_with fail
        go_ret
        exact ⟨A, c, l, rfl, E.out, by rw [hpb]; exact own_lower O2.out (by omega), hb⟩
    · have E := Aid.hid (CA.out.stop (fun h => hk2 (HK.out.symm.trans h.1)))
      have hk3 : (k == 2) = false := by simpa using hk2
      go_wp2_with fail
      go_ret
      exact ⟨A, c, l, rfl, E.out, by rw [hpb]; exact own_lower O2.out (by omega), hb⟩
theorem chain_is (u : List Dk) (a : Option Addr) (B cap : Nat) (d0 : Int) (zs : List Int) (w : World) (hz : Tb.chain u d0 = zs) (hu : UnitAt w B a u) (hB : B ≤ w.heap.size) :
    Calls Tryz.prog 55 #[.agg #[.slice a u.length cap], .int .i64 d0] w fun e w' => ∃ A c, e = .returned (.slice A zs.length c) ∧
      w'.ownsRow w.heap.size 3 1 (.slice A zs.length c) zs.length (zs.map (Value.int .i64)) ∧ Below w.heap.size w w' := by
  subst hz
  refine (chain_any u a B cap d0 w hu hB).mono ?_
  rintro e w' ⟨A, c, zs, rfl, rfl, h⟩
  exact ⟨A, c, rfl, h⟩
end Go.Proofs.YtejifefgmlpclaaGreat
