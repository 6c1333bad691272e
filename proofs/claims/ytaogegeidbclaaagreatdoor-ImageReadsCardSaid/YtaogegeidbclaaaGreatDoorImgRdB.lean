/- The program's reader: a number. -/
import Derived.Test.YtaogegeidbclaaaGreatDoorImgRdA
import Derived.Laws.BitsAllLaws
namespace Go.Proofs.YtaogegeidbclaaaGreatDoor
open Go.RowKit

/-- The number of four bytes, so far. -/
def Rd.val (l : List Int) : Int := l.foldl (fun a x => a * 256 + x) 0
theorem Rd.val_snoc (l : List Int) (x : Int) : Rd.val (l ++ [x]) = Rd.val l * 256 + x := by simp [Rd.val]
theorem Rd.val_next {l : List Int} {k : Nat} {x : Int} (h : l[k]? = some x) : Rd.val (l.take (k + 1)) = Rd.val (l.take k) * 256 + x := by
  rw [List.take_add_one, h, Option.toList_some, Rd.val_snoc]
theorem Rd.or_mul (a b i m : Nat) (hm : m = 2 ^ i) (h : a < m) : (b * m) ||| a = b * m + a := by
  subst hm
  rw [← Nat.shiftLeft_eq, Nat.shiftLeft_add_eq_or_of_lt h]
theorem Rd.or_i64 (a x : Int) (h0 : 0 ≤ a) (h1 : a < 4294967296) (h2 : 0 ≤ x) (h3 : x < 256) : bits BinOp.or IntKind.i64 (a * 256) x = a * 256 + x := by
  obtain ⟨n, rfl⟩ := Int.eq_ofNat_of_zero_le h0
  obtain ⟨m, rfl⟩ := Int.eq_ofNat_of_zero_le h2
  have e : ((n : Int) * 256) = ((n * 256 : Nat) : Int) := by omega
  rw [e]
  have k1 : (BitVec.ofInt 64 ((n * 256 : Nat) : Int)).toNat = n * 256 := by
    rw [BitVec.ofInt_natCast, BitVec.toNat_ofNat]; exact Nat.mod_eq_of_lt (by omega)
  have k2 : (BitVec.ofInt 64 ((m : Nat) : Int)).toNat = m := by
    rw [BitVec.ofInt_natCast, BitVec.toNat_ofNat]; exact Nat.mod_eq_of_lt (by omega)
  show IntKind.i64.wrap ((BitVec.ofInt 64 ((n * 256 : Nat) : Int) ||| BitVec.ofInt 64 (m : Int)).toNat : Int) = _
  rw [BitVec.toNat_or, k1, k2, Rd.or_mul m n 8 256 (by decide) (by omega)]
  rw [Go.IntWalk.i64_in _ (by omega)]; omega
theorem Rd.val_be (v : Int) : Rd.val (Wt.be v) = v % 4294967296 := by
  simp only [Rd.val, Wt.be, List.foldl_cons, List.foldl_nil]; omega
theorem Rd.val_small (o : List Int) (k : Nat) (hb : ∀ y ∈ o, 0 ≤ y ∧ y < 256) (hk : k ≤ o.length) : 0 ≤ Rd.val (o.take k) ∧ (k ≤ 3 → Rd.val (o.take k) < 16777216) ∧ (k ≤ 4 → Rd.val (o.take k) < 4294967296) := by
  have step : ∀ j, j + 1 ≤ o.length → ∃ x, 0 ≤ x ∧ x < 256 ∧ Rd.val (o.take (j + 1)) = Rd.val (o.take j) * 256 + x := fun j hj =>
    ⟨o[j], (hb _ (List.getElem_mem (by omega))).1, (hb _ (List.getElem_mem (by omega))).2, Rd.val_next (List.getElem?_eq_getElem (by omega))⟩
  have z : Rd.val (o.take 0) = 0 := by simp [Rd.val]
  have nn : ∀ j, j ≤ o.length → 0 ≤ Rd.val (o.take j) := fun j => by
    induction j with
    | zero => intro _; rw [z]; omega
    | succ j ih => intro h; obtain ⟨x, a, b, c⟩ := step j h; have := ih (by omega); rw [c]; omega
  refine ⟨nn k hk, fun h => ?_, fun h => ?_⟩
  · match k, h with
    | 0, _ => rw [z]; omega
    | 1, _ => obtain ⟨x, a, b, c⟩ := step 0 (by omega); rw [c, z]; omega
    | 2, _ => obtain ⟨x, a, b, c⟩ := step 0 (by omega); obtain ⟨y, d, e, f⟩ := step 1 (by omega); rw [f, c, z]; omega
    | 3, _ => obtain ⟨x, a, b, c⟩ := step 0 (by omega); obtain ⟨y, d, e, f⟩ := step 1 (by omega); obtain ⟨u, g, i, j⟩ := step 2 (by omega); rw [j, f, c, z]; omega
  · match k, h with
    | 0, _ => rw [z]; omega
    | 1, _ => obtain ⟨x, a, b, c⟩ := step 0 (by omega); rw [c, z]; omega
    | 2, _ => obtain ⟨x, a, b, c⟩ := step 0 (by omega); obtain ⟨y, d, e, f⟩ := step 1 (by omega); rw [f, c, z]; omega
    | 3, _ => obtain ⟨x, a, b, c⟩ := step 0 (by omega); obtain ⟨y, d, e, f⟩ := step 1 (by omega); obtain ⟨u, g, i, j⟩ := step 2 (by omega); rw [j, f, c, z]; omega
    | 4, _ => obtain ⟨x, a, b, c⟩ := step 0 (by omega); obtain ⟨y, d, e, f⟩ := step 1 (by omega); obtain ⟨u, g, i, j⟩ := step 2 (by omega); obtain ⟨q, r, t, l⟩ := step 3 (by omega); rw [l, j, f, c, z]; omega
/-- What reading a number comes to. -/
def Numd (T : TypeId) (p : Nat) (s : St) (w : World) (e : Ending) (w' : World) : Prop :=
  ∃ (v : Int) (s' : St), e = .returned (.int .i64 v) ∧ -2147483648 ≤ v ∧ v ≤ 2147483647 ∧ Rd.Is w' T p s' ∧ Keep p w w' ∧ Got Pc.num (fun u => v = u) s s'
theorem Got.bad {α : Type} {f : α → Pc} {R : α → Prop} {s s' : St} (h : s.x = true ∨ (∀ v, s.b.length < (f v).b.length)) : Got f R s s' := fun v t h1 h2 _ => by
  rcases h with h | h
  · rw [h] at h1; cases h1
  · have := h v; rw [h2] at this; simp at this; omega
set_option maxRecDepth 100000 in
set_option maxHeartbeats 1000000 in
theorem num_is (p : Nat) (s : St) (w : World) (h : Rd.Is w 92 p s) :
    Calls Tryz.prog 90 #[.pointer (some ⟨p, 0, none⟩)] w fun e w' => Numd 92 p s w e w' := by
  have HC := Aid.hid (take_is p 4 s w h)
  clear h
  go_enter Tryz.func90, Tryz.ntmps90
  try simp only [List.append_eq, List.cons_append, List.nil_append]
  go_wp2_with fail
  go_at_call 77
  refine HC.out.mono ?_
  rintro e w1 ⟨A, c, o, s', rfl, h1, h2, h3, h4, h5, h6, h7⟩
  clear HC
  have H4 := Aid.hid h4
  have H5 := Aid.hid h5
  obtain ⟨B, d, q1, q2, q3, q4⟩ := h4
  have p1 := q1.cell 1 _ rfl
  clear q1 q2 q3 q4
  cases hx : s'.x
  · rw [hx] at p1
    have HS : s.x = false ∧ (4 : Int) ≤ s.b.length := by
      by_cases hb : s.x = true ∨ (4 : Int) < 0 ∨ (s.b.length : Int) < 4
      · have := (h6 hb).2; rw [this] at hx; cases hx
      · constructor
        · cases hz : s.x
          · rfl
          · exact absurd (Or.inl hz) hb
        · omega
    obtain ⟨ho, hs'⟩ := h7 HS.1 (by omega) HS.2
    have lo : o.length = 4 := by rw [ho, List.length_take]; show min 4 _ = 4; omega
    have HG : Hid (∀ v, v = (Rd.val o + 2147483648) % 4294967296 - 2147483648 → Got Pc.num (fun u => v = u) s s') := Aid.hid (fun v hv u t g1 g2 g3 => by
      have e1 : o = Wt.be u := by rw [ho, g2]; show (Wt.be u ++ t).take 4 = _; simp [Wt.be]
      have e2 : s'.b = t := by rw [hs', g2]; show (Wt.be u ++ t).drop 4 = _; simp [Wt.be]
      have e3 : -2147483648 ≤ u ∧ u ≤ 2147483647 := by
        simp only [Pc.num, Wt.out, Bool.or_eq_false_iff, decide_eq_false_iff_not] at g3; omega
      rw [e1, Rd.val_be] at hv
      refine ⟨by omega, ?_⟩
      rw [hs'] at e2 ⊢; simp at e2; rw [← e2]; rfl)
    have RNG : Hid (∀ k, k ≤ 4 → 0 ≤ Rd.val (o.take k) ∧ (k ≤ 3 → Rd.val (o.take k) < 16777216) ∧ (k ≤ 4 → Rd.val (o.take k) < 4294967296)) := Aid.hid (fun k hk => Rd.val_small o k h3 (by omega))
    have HO := Aid.hid (⟨h2, h3⟩ : _ ∧ _)
    have LO := Aid.hid lo
    have lo2 : o.length ≤ 4 := by omega
    clear h6 h7 h2 h3 h5 HS ho hs' lo hx
    go_wp2_with fail
    go_loopw [4, 15] (fun va vi wr => ∃ (k : Nat) (a : Int), vi = .int .i64 k ∧ k ≤ o.length ∧ va = .int .i64 a ∧ Hid (Rd.val (o.take k) = a) ∧ wr = w1) (fun _ vi _ => o.length - (intOf vi).toNat)
    case atStart => exact ⟨0, 0, rfl, Nat.zero_le _, rfl, Aid.hid (by simp [Rd.val]), rfl⟩
    case round =>
      obtain ⟨k, a, rfl, hk, rfl, HA, rfl⟩ := hrel
      by_cases hlt : k < o.length
      · obtain ⟨x, hx⟩ : ∃ x, o[k]? = some x := ⟨_, List.getElem?_eq_getElem hlt⟩
        obtain ⟨ad, u, rfl, hb, hu, hc⟩ := HO.out.1.at_ hlt
        obtain rfl : u = .int .u8 x := by simpa [hx] using hu.symm
        have hr := HO.out.2 x (List.mem_of_getElem? hx)
        have ha : 0 ≤ a ∧ a < 16777216 := by have := RNG.out k (by omega); rw [HA.out] at this; exact ⟨this.1, this.2.1 (by omega)⟩
        have hx1 := hr.1
        have hx2 := hr.2
        have hor := Rd.or_i64 a x ha.1 (by omega) hx1 hx2
        have NA : Hid (Rd.val (o.take (k + 1)) = a * 256 + x) := Aid.hid (by rw [Rd.val_next hx, HA.out])
        obtain ⟨ha1, ha2⟩ := ha
        clear hu hr hx
        go_wp2_with fail
        go_roundw
        case rel => exact ⟨k + 1, a * 256 + x, by go_num, by omega, rfl, NA, trivial⟩
        case measure => simp [intOf]; omega
      · have hr := RNG.out k (by omega)
        rw [HA.out] at hr
        have ha1 := hr.1
        have ha2 := hr.2.2 (by omega)
        have FA : Hid (a = Rd.val o) := Aid.hid (by rw [← HA.out, List.take_of_length_le (by omega)])
        clear hr HA
        go_wp2_with fail
        go_ret
        have hw : wrap64 (wrap32 a) = (a + 2147483648) % 4294967296 - 2147483648 := by
          have h1 : wrap32 a = (a + 2147483648) % 4294967296 - 2147483648 := by unfold wrap32; omega
          rw [h1]; unfold wrap64; omega
        exact ⟨wrap64 (wrap32 a), s', rfl, by rw [hw]; omega, by rw [hw]; omega, H4.out, H5.out, HG.out _ (by rw [hw, FA.out])⟩
  · rw [hx] at p1
    have HG : Hid (Got Pc.num (fun u => (0 : Int) = u) s s') := Aid.hid (by
      by_cases hb : s.x = true ∨ (4 : Int) < 0 ∨ (s.b.length : Int) < 4
      · exact Got.bad (by
          rcases hb with h | h | h
          · exact Or.inl h
          · omega
          · exact Or.inr (fun v => by rw [Pc.num_len]; omega))
      · have hz : s.x = false := by
          cases hz : s.x
          · rfl
          · exact absurd (Or.inl hz) hb
        rw [(h7 hz (by omega) (by omega)).2] at hx; cases hx)
    clear h6 h7 h2 h3 h5
    go_wp2_with fail
    go_ret
    exact ⟨0, s', rfl, by omega, by omega, H4.out, H5.out, HG.out⟩
end Go.Proofs.YtaogegeidbclaaaGreatDoor
