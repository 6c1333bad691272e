/- Code: what a body does. -/
import Derived.Test.YtlajbngfdbnoiaaEvD
namespace Go.Proofs.Ytlajbngfdbnoiaa
set_option linter.unusedSimpArgs false
set_option linter.unusedVariables false
set_option linter.constructorNameAsVariable false
open Go Go.RowKit
namespace Ev
variable {Df : List Deferred}
variable {P : Program} {tt : TT} {ν : Nat → Int} {ρ : Pl} {a : Act} {en : En} {w : World} {o : Oper} {v : V} {t : Tr V} {nt : Nat} {ops : Array Oper} {call : Nat → List V → H → R1} {h0 : H} {C : Tr Unit}
theorem bpOf_ne {m n : Nat} (hm : m < 200000) (hn : n < 200000) (h : m ≠ n) : bpOf m ≠ bpOf n := fun e => h (bpOf_inj (by omega) (by omega) e)
theorem bpOf'_big : ∀ (f k m : Nat), k ≤ f → 2 ^ k ≤ m → 2 ^ k ≤ bpN (bpOf' f m)
  | f, 0, m, _, _ => bpN_pos _
  | 0, k + 1, m, h, _ => by omega
  | f + 1, k + 1, m, h, hm => by
    have hm2 : 2 ^ k ≤ Nat.shiftRight m 1 := by
      show 2 ^ k ≤ m >>> 1
      rw [Nat.shiftRight_eq_div_pow, Nat.pow_one]
      rw [Nat.pow_succ] at hm
      omega
    have ih := bpOf'_big f k (Nat.shiftRight m 1) (by omega) hm2
    have hle : Nat.ble m 1 = false := by
      cases hb : Nat.ble m 1 with
      | false => rfl
      | true => have := Nat.le_of_ble_eq_true hb; rw [Nat.pow_succ] at hm; have := Nat.one_le_two_pow (n := k); omega
    show 2 ^ (k + 1) ≤ bpN (Bool.rec (Bool.rec (BP.e (bpOf' f (Nat.shiftRight m 1))) (BP.o (bpOf' f (Nat.shiftRight m 1))) (Nat.beq (Nat.land m 1) 1)) BP.one (Nat.ble m 1))
    rw [hle]
    cases Nat.beq (Nat.land m 1) 1 <;> (simp only [bpN]; rw [Nat.pow_succ]; omega)
theorem bpOf_big (g : Nat) : min (g + 1) (2 ^ 39) ≤ bpN (bpOf g) := by
  by_cases h : g + 1 < 2 ^ 40
  · unfold bpOf; rw [bpOf'_N 40 _ (by omega) h]; omega
  · have := bpOf'_big 40 40 (g + 1) (Nat.le_refl _) (by omega)
    unfold bpOf; omega
theorem commit_get (C : Tr Unit) (r : List V) (d : Nat) (hd : d < 100000) : ∀ (tk : List Tk) (seen : List Nat) (n : Nat) (t : Tr V), (∀ k ∈ tk, ∀ m, k.dst = some m → m < 100000) →
    get (bpOf d) (commit r (commits C seen tk n) t) = match (if d ∈ seen then none else match get (bpOf d) C with | some _ => locOf d (tk.map (·.dst)) n | none => none) with | some p => r[p]? | none => get (bpOf d) t := by
  intro tk
  induction tk with
  | nil =>
    intro seen n t _
    show get (bpOf d) t = _
    split
    · rename_i p e
      split at e
      · cases e
      · split at e
        · cases e
        · cases e
    · rfl
  | cons k tk ih =>
    intro seen n t hk
    have hk' := fun x hx => hk x (List.mem_cons_of_mem _ hx)
    cases hdst : k.dst with
    | none =>
      simp only [commits, hdst, List.map_cons, locOf]
      rw [ih seen (n + 1) t hk']
    | some m =>
      have hm : Nat.lt m 100000 := hk k (List.mem_cons_self ..) m hdst
      have hm : LE.le (α := Nat) (Nat.succ m) 100000 := hm
      simp only [commits, hdst, List.map_cons, locOf]
      cases hs : seen.any (Nat.beq m) with
      | true =>
        obtain ⟨x, hx, hxe⟩ := List.any_eq_true.1 hs
        have hms : m ∈ seen := by rw [Nat.eq_of_beq_eq_true hxe]; exact hx
        simp only [cond_true]
        rw [ih seen (n + 1) t hk']
        by_cases e : d ∈ seen
        · rw [if_pos e, if_pos e]
        · have hne : m ≠ d := fun h => e (h ▸ hms)
          rw [if_neg e, if_neg e, show Nat.beq m d = false from Bool.eq_false_iff.2 fun h => hne (Nat.eq_of_beq_eq_true h)]
          rfl
      | false =>
        have hms : m ∉ seen := fun h => by
          have : seen.any (Nat.beq m) = true := List.any_eq_true.2 ⟨m, h, Nat.beq_refl m⟩
          rw [hs] at this; cases this
        simp only [cond_false]
        cases hC : get (bpOf m) C with
        | none =>
          simp only []
          rw [ih seen (n + 1) t hk']
          by_cases e : m = d
          · subst e; simp only [hC]
          · rw [show Nat.beq m d = false from Bool.eq_false_iff.2 fun h => e (Nat.eq_of_beq_eq_true h)]
            rfl
        | some u =>
          simp only []
          show get (bpOf d) (commit r (commits C (m :: seen) tk (n + 1)) (set (bpOf m) (nth r n) t)) = _
          rw [ih (m :: seen) (n + 1) _ hk', get_set, nth_eq]
          by_cases e : m = d
          · subst e
            rw [if_pos (List.mem_cons_self ..), if_neg hms, hC, Nat.beq_refl]
            simp
          · rw [show Nat.beq m d = false from Bool.eq_false_iff.2 fun h => e (Nat.eq_of_beq_eq_true h), if_neg (bpOf_ne (by omega) (by omega) (fun h => e h.symm))]
            have : (d ∈ m :: seen) ↔ d ∈ seen := by simp; exact fun h => absurd h.symm e
            simp only [this, cond_false]
theorem commit_glob (C : Tr Unit) (r : List V) (g : Nat) : ∀ (tk : List Tk) (seen : List Nat) (n : Nat) (t : Tr V), (∀ k ∈ tk, ∀ m, k.dst = some m → m < 100000) →
    get (bpOf (100000 + g)) (commit r (commits C seen tk n) t) = get (bpOf (100000 + g)) t := by
  intro tk
  induction tk with
  | nil => intro seen n t _; rfl
  | cons k tk ih =>
    intro seen n t hk
    have hk' := fun x hx => hk x (List.mem_cons_of_mem _ hx)
    cases hdst : k.dst with
    | none => simp only [commits, hdst]; exact ih seen (n + 1) t hk'
    | some m =>
      have hm : Nat.lt m 100000 := hk k (List.mem_cons_self ..) m hdst
      have hm : LE.le (α := Nat) (Nat.succ m) 100000 := hm
      simp only [commits, hdst]
      cases hs : seen.any (Nat.beq m) with
      | true => simp only [cond_true]; exact ih seen (n + 1) t hk'
      | false =>
        simp only [cond_false]
        cases hC : get (bpOf m) C with
        | none => simp only []; exact ih seen (n + 1) t hk'
        | some u =>
          simp only []
          show get (bpOf (100000 + g)) (commit r (commits C (m :: seen) tk (n + 1)) (set (bpOf m) (nth r n) t)) = _
          rw [ih (m :: seen) (n + 1) _ hk', get_set, if_neg]
          intro e
          have hN := congrArg bpN e
          have h1 : bpN (bpOf m) = m + 1 := by unfold bpOf; exact bpOf'_N 40 _ (by omega) (by omega)
          have h2 := bpOf_big (100000 + g)
          omega
/-- How a frame stands between two regions. -/
structure FrC (Df : List Deferred) (ν : Nat → Int) (C : Tr Unit) (ρ : Pl) (nt : Nat) (t : Tr V) (a : Act) : Prop extends FrR Df ν ρ nt t a where
  ins : ∀ n v, n < 100000 → get (bpOf n) t = some v → ∃ u, get (bpOf n) C = some u
theorem FrC.mono {ρ' : Pl} (h : ρ.le ρ') (F : FrC Df ν C ρ nt t a) : FrC Df ν C ρ' nt t a := ⟨F.toFrR.mono h, F.ins⟩
theorem FrC.region {tk : List Tk} {r : List V} (F : ∀ n v, n < 100000 → get (bpOf n) t = some v → ∃ u, get (bpOf n) C = some u) (K : Cur Df ν ρ nt ops t tk r a) (hd : ∀ k ∈ tk, ∀ m, k.dst = some m → m < nt) (hnt : nt ≤ 100000) : FrC Df ν C ρ nt (commit r (commits C [] tk 0) t) a := by
  have hd' : ∀ k ∈ tk, ∀ m, k.dst = some m → m < 100000 := fun k hk m hm => Nat.lt_of_lt_of_le (hd k hk m hm) hnt
  refine ⟨⟨fun n hn v hv => ?_, fun g v hv => K.glob g v (by rwa [commit_glob C r g tk [] 0 t hd'] at hv), K.defers, K.size⟩, fun n v hn hv => ?_⟩
  · rw [commit_get C r n hn tk [] 0 t hd', if_neg (by simp)] at hv
    have hK := K.slot n hn
    cases hC : get (bpOf n) C with
    | none =>
      rw [hC] at hv
      obtain ⟨u, hu⟩ := F n v hn hv
      rw [hC] at hu; cases hu
    | some u =>
      rw [hC] at hv
      simp only [] at hv
      cases hl : locOf n (tk.map (·.dst)) 0 with
      | none => rw [hl] at hv hK; exact hK v hv
      | some p =>
        rw [hl] at hv hK
        obtain ⟨v', h1, h2⟩ := hK
        simp only [] at hv
        rw [h1] at hv
        obtain rfl := Option.some.inj hv
        exact h2
  · rw [commit_get C r n hn tk [] 0 t hd', if_neg (by simp)] at hv
    cases hC : get (bpOf n) C with
    | none => rw [hC] at hv; exact (F n v hn hv).imp fun u hu => by rw [hC] at hu; cases hu
    | some u => exact ⟨u, rfl⟩
end Ev
end Go.Proofs.Ytlajbngfdbnoiaa
