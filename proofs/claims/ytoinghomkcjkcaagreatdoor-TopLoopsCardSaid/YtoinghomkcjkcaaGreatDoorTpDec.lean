/- governortop.dec, walked: the digits of a number. -/
import Derived.Test.YtoinghomkcjkcaaGreatDoorKk
import Derived.WalkKit
import Derived.LoopTactic
namespace Go.Proofs.YtoinghomkcjkcaaGreatDoor
set_option linter.unusedSimpArgs false
set_option linter.unusedVariables false
set_option linter.constructorNameAsVariable false
open Go Go.RowKit
open Ev
def Tp.dg (k : Nat) : UInt8 := (48 + k % 10).toUInt8
def Tp.decT (k : Nat) (l : List UInt8) : List UInt8 := if 0 < k ∨ l = [] then Tp.decT (k / 10) (Tp.dg k :: l) else l
termination_by k + (if l = [] then 1 else 0)
decreasing_by
  rename_i h
  have h1 : k / 10 ≤ k := Nat.div_le_self k 10
  by_cases hk : 0 < k
  · have h2 : k / 10 < k := Nat.div_lt_self hk (by decide)
    simp; omega
  · obtain rfl : k = 0 := by omega
    obtain h | h := h
    · omega
    · simp [h]
theorem Tp.digit_slice (k : Nat) : (⟨#[48, 49, 50, 51, 52, 53, 54, 55, 56, 57]⟩ : ByteArray).extract (k % 10) (k % 10 + 1) = ⟨#[Tp.dg k]⟩ := by
  unfold Tp.dg
  have h : k % 10 < 10 := Nat.mod_lt _ (by decide)
  generalize k % 10 = m at *
  match m, h with
  | 0, _ => rfl
  | 1, _ => rfl
  | 2, _ => rfl
  | 3, _ => rfl
  | 4, _ => rfl
  | 5, _ => rfl
  | 6, _ => rfl
  | 7, _ => rfl
  | 8, _ => rfl
  | 9, _ => rfl
theorem Tp.digit_cat (k : Nat) (l : List UInt8) : (⟨#[48, 49, 50, 51, 52, 53, 54, 55, 56, 57]⟩ : ByteArray).extract (k % 10) (k % 10 + 1) ++ ⟨l.toArray⟩ = ⟨(Tp.dg k :: l).toArray⟩ := by
  rw [Tp.digit_slice]
  apply ByteArray.ext
  rw [ByteArray.data_append]
  simp
def Tp.short (j : Nat) (l : List UInt8) : Prop := ∃ m, j < 10 ^ m ∧ l.length + m ≤ 20
theorem Tp.short.len {j : Nat} {l : List UInt8} (h : Tp.short j l) : l.length ≤ 20 := by obtain ⟨m, _, h⟩ := h; omega
theorem Tp.short.next {j : Nat} {l : List UInt8} (h : Tp.short j l) (hc : 0 < j ∨ l = []) (d : UInt8) : Tp.short (j / 10) (d :: l) := by
  obtain ⟨m, h1, h2⟩ := h
  cases m with
  | zero =>
    obtain rfl : j = 0 := by simpa using h1
    obtain rfl : l = [] := hc.resolve_left (by omega)
    exact ⟨0, by decide, by simp⟩
  | succ m =>
    refine ⟨m, ?_, by simp only [List.length_cons]; omega⟩
    rw [Nat.pow_succ] at h1
    exact Nat.div_lt_of_lt_mul (by omega)
def Tp.mu (s k : Value) : Nat := (intOf k).toNat + (match s with | .string b => (if b.size = 0 then 1 else 0) | _ => 0)
set_option maxRecDepth 100000 in
set_option maxHeartbeats 2000000 in
theorem dec_is (n : Nat) (hn : n ≤ 1000000000) (w : World) :
    Calls Tryz.prog 10 #[.int .i64 n] w fun e w' => e = .returned (.string ⟨(Tp.decT n []).toArray⟩) ∧ w' = w := by
  go_enter Tryz.func10, Tryz.ntmps10
  go_wp2
  go_loopw [3, 4] (fun s k wi => wi = w ∧ ∃ (j : Nat) (l : List UInt8), s = .string ⟨l.toArray⟩ ∧ k = .int .i64 j ∧ j ≤ 1000000000 ∧ Hid (Tp.short j l) ∧ Hid (Tp.decT j l = Tp.decT n [])) (fun s k _ => Tp.mu s k)
  case atStart => exact ⟨rfl, n, [], rfl, rfl, hn, Aid.hid ⟨10, by show n < 10 ^ 10; omega, by simp⟩, Aid.hid rfl⟩
  case round =>
    obtain ⟨rfl, j, l, rfl, rfl, hj, hL, hT⟩ := hrel
    have hl := hL.out.len
    have hm : j % 10 < 10 := Nat.mod_lt _ (by decide)
    by_cases hc : 0 < j ∨ l = []
    · have hS : Hid (Tp.decT (j / 10) (Tp.dg j :: l) = Tp.decT n []) := Aid.hid (by rw [← hT.out, Tp.decT.eq_1 j l, if_pos hc])
      have hM : Hid (Tp.mu (.string ⟨(Tp.dg j :: l).toArray⟩) (.int .i64 ((j / 10 : Nat) : Int)) < Tp.mu (.string ⟨l.toArray⟩) (.int .i64 (j : Int))) := by
        refine Aid.hid ?_
        have h1 : j / 10 ≤ j := Nat.div_le_self j 10
        simp only [Tp.mu, intOf, ByteArray.size, List.size_toArray, List.length_cons]
        rcases Nat.eq_zero_or_pos j with rfl | h0
        · obtain rfl : l = [] := hc.resolve_left (by omega)
          simp
        · have h2 : j / 10 < j := Nat.div_lt_self h0 (by decide)
          simp; omega
      have hN : Hid (Tp.short (j / 10) (Tp.dg j :: l)) := Aid.hid (hL.out.next hc _)
      clear hT hL
      rcases Nat.eq_zero_or_pos j with h0 | h0
      · obtain rfl : l = [] := hc.resolve_left (by omega)
        subst h0
        go_wp2
        case roundEnd =>
          have hq := Tp.digit_cat 0 []
          simp only [Nat.zero_mod, Nat.zero_add] at hq
          refine ⟨⟨trivial, 0, Tp.dg 0 :: [], by rw [← hq], by simp, by omega, hN, hS⟩, ?_⟩
          have hM' := hM.out
          rw [← hq] at hM'
          exact hM'
        all_goals omega
      · have g0 : decide ((0 : Int) < (j : Int)) = true := decide_eq_true (by omega)
        go_wp2
        case roundEnd =>
          rw [Tp.digit_cat]
          refine ⟨⟨trivial, j / 10, _, rfl, by simp, by omega, hN, hS⟩, ?_⟩
          have hq : ((j : Int) / 10) = ((j / 10 : Nat) : Int) := by omega
          rw [hq]
          exact hM.out
        all_goals omega
    · obtain rfl : j = 0 := by omega
      have hl0 : l ≠ [] := fun h => hc (.inr h)
      have hE : Hid (l = Tp.decT n []) := Aid.hid (by rw [← hT.out, Tp.decT.eq_1 0 l, if_neg hc])
      have hl1 : l.isEmpty = false := by cases l with | nil => exact absurd rfl hl0 | cons a l => rfl
      clear hT hl0 hc
      go_wp2
      go_ret
      exact ⟨by rw [← hE.out]; rfl, rfl⟩
theorem Tp.decT_1 {n : Nat} (h : n < 10) : Tp.decT n [] = [Tp.dg n] := by
  rw [Tp.decT.eq_1, if_pos (.inr rfl), Tp.decT.eq_1, if_neg (by simp; omega)]
theorem Tp.decT_2 {n : Nat} (h0 : 10 ≤ n) (h : n < 100) : Tp.decT n [] = [Tp.dg (n / 10), Tp.dg n] := by
  rw [Tp.decT.eq_1, if_pos (.inr rfl), Tp.decT.eq_1, if_pos (.inl (by omega)), Tp.decT.eq_1, if_neg (by simp; omega)]
theorem Tp.decT_3 {n : Nat} (h0 : 100 ≤ n) (h : n < 1000) : Tp.decT n [] = [Tp.dg (n / 10 / 10), Tp.dg (n / 10), Tp.dg n] := by
  rw [Tp.decT.eq_1, if_pos (.inr rfl), Tp.decT.eq_1, if_pos (.inl (by omega)), Tp.decT.eq_1, if_pos (.inl (by omega)), Tp.decT.eq_1, if_neg (by simp; omega)]
theorem Tp.decT_4 {n : Nat} (h0 : 1000 ≤ n) (h : n < 10000) : Tp.decT n [] = [Tp.dg (n / 10 / 10 / 10), Tp.dg (n / 10 / 10), Tp.dg (n / 10), Tp.dg n] := by
  rw [Tp.decT.eq_1, if_pos (.inr rfl), Tp.decT.eq_1, if_pos (.inl (by omega)), Tp.decT.eq_1, if_pos (.inl (by omega)), Tp.decT.eq_1, if_pos (.inl (by omega)), Tp.decT.eq_1, if_neg (by simp; omega)]
theorem Tp.decT_5 {n : Nat} (h0 : 10000 ≤ n) (h : n < 100000) : Tp.decT n [] = [Tp.dg (n / 10 / 10 / 10 / 10), Tp.dg (n / 10 / 10 / 10), Tp.dg (n / 10 / 10), Tp.dg (n / 10), Tp.dg n] := by
  rw [Tp.decT.eq_1, if_pos (.inr rfl), Tp.decT.eq_1, if_pos (.inl (by omega)), Tp.decT.eq_1, if_pos (.inl (by omega)), Tp.decT.eq_1, if_pos (.inl (by omega)), Tp.decT.eq_1, if_pos (.inl (by omega)), Tp.decT.eq_1, if_neg (by simp; omega)]
theorem Tp.dg_val (k : Nat) : ((Tp.dg k).toNat : Int) = 48 + (k : Int) % 10 := by
  have h : k % 10 < 10 := Nat.mod_lt _ (by decide)
  have e : (Tp.dg k).toNat = 48 + k % 10 := by
    unfold Tp.dg
    rw [Nat.toUInt8, UInt8.toNat_ofNat']
    omega
  rw [e]; omega
noncomputable section
/-- what dec answers of numbers that are named: the digits' names -/
def decLook (z : Z) : List (Z × List Z) → Option (List Z) := List.rec none (fun p _ ih => bcase (zBeq z p.1) ih (some p.2))
def oneI (xs : List V) (f : Z → Option R1) : Option R1 := List.rec (motive := fun _ => Option R1) none (fun a l _ => List.rec (motive := fun _ => Option R1) (onI a none (fun k z => bcase (Nat.beq (kN k) 3) none (f z))) (fun _ _ _ => none) l) xs
def decOv (tb : List (Z × List Z)) (rest : Ov) : Ov := fun g xs h => bcase (Nat.beq g 10) (rest g xs h) (oneI xs (fun z => ocase (decLook z tb) none (fun l => some (R1.ok (V.s l) h))))
end
/-- the names are right -/
def DecOk (ν : Nat → Int) (tb : List (Z × List Z)) : Prop := ∀ p ∈ tb, ∃ n : Nat, n ≤ 1000000000 ∧ zval ν p.1 = n ∧ SR ν p.2 (Tp.decT n [])
theorem decLook_ok {ν : Nat → Int} {z : Z} {l : List Z} : ∀ {tb : List (Z × List Z)}, DecOk ν tb → decLook z tb = some l → ∃ n : Nat, n ≤ 1000000000 ∧ zval ν z = n ∧ SR ν l (Tp.decT n [])
  | [], _, h => by cases h
  | p :: tb, hd, h => by
    have h' : bcase (zBeq z p.1) (decLook z tb) (some p.2) = some l := h
    cases e : zBeq z p.1 with
    | false => rw [e] at h'; exact decLook_ok (fun q hq => hd q (List.mem_cons_of_mem _ hq)) h'
    | true =>
      rw [e] at h'
      obtain rfl := Option.some.inj h'
      rw [zBeq_eq _ _ e]
      exact hd p (List.mem_cons_self ..)
theorem decOv_good {ν : Nat → Int} {tb : List (Z × List Z)} {rest : Ov} (hd : DecOk ν tb) (hR : OvGood ν rest) : OvGood ν (decOv tb rest) := by
  intro W hW g xs h v h' e
  have e' : bcase (Nat.beq g 10) (rest g xs h) (oneI xs (fun z => ocase (decLook z tb) none (fun l => some (R1.ok (V.s l) h)))) = some (.ok v h') := e
  cases e1 : Nat.beq g 10 with
  | false => rw [e1] at e'; exact hR W hW _ _ _ _ _ e'
  | true =>
    rw [e1] at e'
    rw [Nat.eq_of_beq_eq_true e1]
    cases xs with
    | nil => cases e'
    | cons a l => cases l with
      | cons b l => cases e'
      | nil => cases a with
        | i k z =>
          have e2 : bcase (Nat.beq (kN k) 3) none (ocase (decLook z tb) none (fun l => some (R1.ok (V.s l) h))) = some (R1.ok v h') := e'
          obtain ⟨e3, e4⟩ := bcase_ne e2 (by simp)
          obtain rfl : k = .i64 := kN_inj (Nat.eq_of_beq_eq_true e3)
          obtain ⟨l, e5, e6⟩ := ocase_ne e4 (by simp)
          have e7 : R1.ok (V.s l) h = R1.ok v h' := Option.some.inj e6
          injection e7 with e8 e9
          subst e8; subst e9
          obtain ⟨n, hn, hz, hs⟩ := decLook_ok hd e5
          refine call1_pure (fun args w => enter_of Tryz.func10 (by kernel_rfl) (by kernel_rfl) _ _) (fun ρ args w R ha => ?_)
          simp only [VRs, VR] at ha
          obtain ⟨u, _, rfl, rfl, rfl⟩ := ha
          rw [hz]
          refine (dec_is n hn w).mono ?_
          rintro e w' ⟨rfl, rfl⟩
          refine ⟨_, rfl, ?_, Below.refl _ _⟩
          simp only [VR]
          exact ⟨_, rfl, by simpa using hs⟩
        | _ => cases e'
end Go.Proofs.YtoinghomkcjkcaaGreatDoor
