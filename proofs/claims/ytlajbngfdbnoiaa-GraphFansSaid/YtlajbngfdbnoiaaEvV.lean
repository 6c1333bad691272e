/- What only reckons, operation by operation: slices, what is built; and all of it in one law. -/
import Derived.Test.YtlajbngfdbnoiaaEvU
namespace Go.Proofs.Ytlajbngfdbnoiaa
set_option linter.unusedSimpArgs false
set_option linter.unusedVariables false
set_option linter.constructorNameAsVariable false
open Go Go.RowKit
namespace Ev
variable {path : List (Cd × Bool)}
variable {P : Program} {tt : TT} {ν : Nat → Int} {ρ : Pl} {ds : List (Option Tmp)} {sv : Src → V} {a : Act} {en : En} {w : World} {o : Oper} {v : V}
theorem run_sb {isS : Bool} {len cap l h : Nat} {lo hi : Option Value} (hh : (hi = none ∧ h = len) ∨ ∃ k : IntKind, hi = some (.int k (h : Int))) (hc : h ≤ cap) (hl : (lo = none ∧ l = 0) ∨ ∃ k : IntKind, lo = some (.int k (l : Int))) (hlh : l ≤ h) :
    (Instr.sliceBounds isS len cap lo hi none).run P w = .ok (l, h, cap) w := by
  have e1 : ∀ (k : IntKind) (y : Nat) (code : BoundsCode), h ≤ y → (Instr.sliceBound (.int k (h : Int)) y code).run P w = .ok h w := fun k y code hy => by
    rw [run_sliceBound w k _ y code (by omega) (by omega)]; simp
  have e2 : ∀ (k : IntKind) (code : BoundsCode), (Instr.sliceBound (.int k (l : Int)) h code).run P w = .ok l w := fun k code => by
    rw [run_sliceBound w k _ h code (by omega) (by omega)]; simp
  rcases hh with ⟨rfl, rfl⟩ | ⟨k, rfl⟩ <;> rcases hl with ⟨rfl, rfl⟩ | ⟨k', rfl⟩
  · simp [Instr.sliceBounds]
  · simp [Instr.sliceBounds, e2]
  · simp [Instr.sliceBounds, e1 k _ _ hc]
  · simp [Instr.sliceBounds, e1 k _ _ hc, e2]
theorem run_sb3 {len cap : Nat} {lo : Option Value} {k k' : IntKind} (hl : lo = none ∨ ∃ k : IntKind, lo = some (.int k 0)) :
    (Instr.sliceBounds true len cap lo (some (.int k 0)) (some (.int k' 0))).run P w = .ok (0, 0, 0) w := by
  have e : ∀ (k : IntKind) (y : Nat) (code : BoundsCode), (Instr.sliceBound (.int k 0) y code).run P w = .ok 0 w := fun k y code => by
    rw [run_sliceBound w k _ y code (by omega) (by omega)]; simp
  rcases hl with rfl | ⟨k2, rfl⟩ <;> simp [Instr.sliceBounds, e]
/-- An operand that may be left out. -/
def OptR (ν : Nat → Int) (ρ : Pl) (sv : Src → V) (a : Act) : Option Operand → Option Src → Prop
  | none, none => True
  | some x, some s => VR ν ρ (sv s) (a.eval x)
  | _, _ => False
theorem optN_ne {x : Option Operand} {s : Option Src} {d : Nat} {r : V} {f : Nat → Option V} (hr : OptR ν ρ sv a x s) (h : optN (srcO sv s) d none f = some r) :
    ∃ n : Nat, ((x.map a.eval = none ∧ n = d) ∨ ∃ k : IntKind, x.map a.eval = some (.int k (n : Int))) ∧ f n = some r := by
  cases x with
  | none => cases s with
    | none => exact ⟨d, .inl ⟨rfl, rfl⟩, h⟩
    | some s => exact hr.elim
  | some x => cases s with
    | none => exact hr.elim
    | some s =>
      obtain ⟨k, n, e, h⟩ := asNat_ne (show asNat (sv s) none f = some r from h) (by simp)
      have hr' : VR ν ρ (sv s) (a.eval x) := hr
      rw [e] at hr'; simp only [VR, zval] at hr'
      exact ⟨n, .inr ⟨k, by simp [hr']⟩, h⟩
theorem p_sstr (hT : TTok P tt) {t : Nat} {x : Operand} {lo hi : Option Operand} {s : Src} {l' h' : Option Src} (ho : o.op = .slice t x lo hi none) (ht : und tt t = some .string) (hx : VR ν ρ (sv s) (a.eval x)) (hl : OptR ν ρ sv a lo l') (hh : OptR ν ρ sv a hi h')
    (hv : sstr (sv s) (srcO sv l') (srcO sv h') = some v) : Gives P ν ρ a o w v := by
  obtain ⟨l, e1, hv⟩ := onS_ne hv (by simp)
  obtain ⟨h, eh, hv⟩ := optN_ne hh hv
  obtain ⟨n, el, hv⟩ := optN_ne hl hv
  obtain ⟨h1, hv⟩ := bcase_ne hv (by simp)
  obtain ⟨h2, hv⟩ := bcase_ne hv (by simp)
  obtain rfl := Option.some.inj hv
  rw [e1] at hx; simp only [VR] at hx
  obtain ⟨b, eb, hb⟩ := hx
  have hsz : b.size = l.length := by rw [size_eq, hb.length]
  have l1 := Nat.le_of_ble_eq_true h1; have l2 := Nat.le_of_ble_eq_true h2
  rw [len_eq] at l2 eh
  have hr := run_sb (P := P) (w := w) (isS := false) (len := b.size) (cap := b.size) (by rw [hsz]; exact eh) (by omega) el l1
  refine ⟨.string (b.extract n h), ?_, ?_⟩
  · simp [execOp, ho, eb, Instr.sliceAt, run_underlying (und_ok hT ht), Instr.slice, hr]
  · simp only [VR]
    refine ⟨_, rfl, ?_⟩
    have : (b.extract n h).data.toList = (b.data.toList.drop n).take (h - n) := by
      rw [ByteArray.data_extract, Array.toList_extract]
    rw [this, take_eq, drop_eq]
    exact (hb.drop n).take _
theorem p_slice (hT : TTok P tt) {t e sz : Nat} {x : Operand} {lo hi mx : Option Operand} {s : Src} {l' h' m' : Option Src} (ho : o.op = .slice t x lo hi mx) (ht : und tt t = some (.slice e)) (hs : sizeT tt e = some sz) (hx : VR ν ρ (sv s) (a.eval x))
    (hl : OptR ν ρ sv a lo l') (hh : OptR ν ρ sv a hi h') (hm : OptR ν ρ sv a mx m') (hv : slice sz (sv s) (srcO sv l') (srcO sv h') (srcO sv m') = some v) : Gives P ν ρ a o w v := by
  have hsz := size_ok (w := w) hT hs
  have hu := run_underlying (und_ok hT ht) w
  -- two places, of whatever slice
  have two : ∀ (p : Option Addr) (len cap n h : Nat), a.eval x = .slice p len cap → mx = none → ((hi.map a.eval = none ∧ h = len) ∨ ∃ k : IntKind, hi.map a.eval = some (.int k (h : Int))) → h ≤ cap → ((lo.map a.eval = none ∧ n = 0) ∨ ∃ k : IntKind, lo.map a.eval = some (.int k (n : Int))) → n ≤ h →
      (execOp a.eval o).run P w = .ok (.value (.slice (if cap = n then p else p.map (·.add (n * sz))) (h - n) (cap - n))) w := by
    intro p len cap n h ex em eh hc el hle
    subst em
    have hr := run_sb (P := P) (w := w) (isS := true) (len := len) eh hc el hle
    simp [execOp, ho, ex, Instr.sliceAt, hu, Instr.slice, hr, hsz]
  have three : ∀ (p : Option Addr) (len cap : Nat) {r : V}, a.eval x = .slice p len cap → (∃ c, srcO sv m' = some c ∧ slice3 (srcO sv l') (srcO sv h') c r = some v) → v = r ∧ (execOp a.eval o).run P w = .ok (.value (.slice p 0 0)) w := by
    rintro p len cap r ex ⟨c, ec, h3⟩
    obtain ⟨hv0, eh0, h3⟩ := ocase_ne h3 (by simp)
    obtain ⟨k1, nb, e1, h3⟩ := asNat_ne h3 (by simp)
    obtain ⟨na, el, h3⟩ := optN_ne hl h3
    obtain ⟨k2, nc, e2, h3⟩ := asNat_ne h3 (by simp)
    obtain ⟨q1, h3⟩ := bcase_ne h3 (by simp)
    obtain ⟨q2, h3⟩ := bcase_ne h3 (by simp)
    obtain ⟨q3, h3⟩ := bcase_ne h3 (by simp)
    obtain rfl := Nat.eq_of_beq_eq_true q1
    obtain rfl := Nat.eq_of_beq_eq_true q2
    obtain rfl := Nat.eq_of_beq_eq_true q3
    refine ⟨(Option.some.inj h3).symm, ?_⟩
    cases hi with
    | none => cases h' with
      | none => cases eh0
      | some _ => exact hh.elim
    | some hi => cases h' with
      | none => exact hh.elim
      | some h' => cases mx with
        | none => cases m' with
          | none => cases ec
          | some _ => exact hm.elim
        | some mx => cases m' with
          | none => exact hm.elim
          | some m' =>
            obtain rfl := Option.some.inj (show some (sv h') = some hv0 from eh0)
            obtain rfl := Option.some.inj (show some (sv m') = some c from ec)
            have hh' : VR ν ρ (sv h') (a.eval hi) := hh
            have hm' : VR ν ρ (sv m') (a.eval mx) := hm
            rw [e1] at hh'; rw [e2] at hm'; simp only [VR, zval] at hh' hm'
            have hr := run_sb3 (P := P) (w := w) (len := len) (cap := cap) (lo := lo.map a.eval) (k := k1) (k' := k2) (by
              rcases el with ⟨el, _⟩ | ⟨k, el⟩
              · exact .inl el
              · exact .inr ⟨k, el⟩)
            simp only [Int.natCast_zero] at hh' hm'
            simp [execOp, ho, ex, Instr.sliceAt, hu, Instr.slice, hh', hm', hr, hsz]
  unfold slice at hv
  by_cases hsl : ∃ y off s' n, sv s = .sl y off s' n
  · obtain ⟨y, off, s', n, es⟩ := hsl
    rw [es] at hv hx
    obtain ⟨h1, hv⟩ := bcase_ne (show bcase (Nat.beq s' sz) none _ = some v from hv) (by simp)
    obtain rfl := Nat.eq_of_beq_eq_true h1
    simp only [VR] at hx
    obtain ⟨b, c, nn, cap, p, e3, ex, hle, hc⟩ := hx
    cases em : srcO sv m' with
    | none =>
      rw [em, ocase_none] at hv
      have hmn : mx = none := by
        cases mx with
        | none => rfl
        | some mx => cases m' with
          | none => exact hm.elim
          | some m' => cases em
      obtain ⟨h, eh, hv⟩ := optN_ne hh hv
      obtain ⟨m, el, hv⟩ := optN_ne hl hv
      obtain ⟨h1, hv⟩ := bcase_ne hv (by simp)
      obtain ⟨h2, hv⟩ := bcase_ne hv (by simp)
      rw [forceN_eq, forceN_eq] at hv
      obtain rfl := Option.some.inj hv
      have l1 := Nat.le_of_ble_eq_true h1; have l2 := Nat.le_of_ble_eq_true h2
      refine ⟨_, two _ _ _ m h ex hmn eh (by omega) el l1, ?_⟩
      simp only [VR]
      by_cases hcm : cap = m
      · rw [if_pos hcm]
        exact ⟨b, c, nn, cap - m, p, e3, rfl, by show Nat.sub h m ≤ _; show h - m ≤ _; omega, fun h0 => absurd (by omega) h0⟩
      · rw [if_neg hcm]
        obtain ⟨rfl, hfit⟩ := hc (by omega)
        refine ⟨b, c, nn, cap - m, _, e3, rfl, by show h - m ≤ _; omega, fun _ => ⟨?_, ?_⟩⟩
        · show (⟨b, c + off, none⟩ : Addr).add (m * s') = ⟨b, c + (off + m * s'), none⟩
          rw [add_at, Nat.add_assoc]
        · show off + m * s' + (cap - m) * s' ≤ nn
          obtain ⟨d, rfl⟩ : ∃ d, cap = m + d := ⟨cap - m, by omega⟩
          rw [Nat.add_sub_cancel_left]; rw [Nat.add_mul] at hfit; omega
    | some cc =>
      rw [em, ocase_some] at hv
      obtain ⟨rfl, hr⟩ := three _ _ _ ex ⟨cc, em, hv⟩
      exact ⟨_, hr, by simp only [VR]; exact ⟨p, rfl⟩⟩
  · have hv2 : bcase (isT 6 (sv s)) none (ocase (srcO sv m') (optN (srcO sv h') 0 none (fun b => optN (srcO sv l') 0 none (fun a => z3 a b 0 V.s0))) (fun c => slice3 (srcO sv l') (srcO sv h') c V.s0)) = some v := by
      generalize sv s = vs at hv hsl
      cases vs <;> first | exact hv | exact absurd ⟨_, _, _, _, rfl⟩ hsl
    obtain ⟨h6, hv3⟩ := bcase_ne hv2 (by simp)
    rw [isT_s0 h6] at hx; simp only [VR] at hx
    cases em : srcO sv m' with
    | none =>
      rw [em, ocase_none] at hv3
      have hmn : mx = none := by
        cases mx with
        | none => rfl
        | some mx => cases m' with
          | none => exact hm.elim
          | some m' => cases em
      obtain ⟨h, eh, hv4⟩ := optN_ne hh hv3
      obtain ⟨m, el, hv4⟩ := optN_ne hl hv4
      obtain ⟨q1, hv4⟩ := bcase_ne hv4 (by simp)
      obtain ⟨q2, hv4⟩ := bcase_ne hv4 (by simp)
      obtain ⟨q3, hv4⟩ := bcase_ne hv4 (by simp)
      obtain rfl := Nat.eq_of_beq_eq_true q1
      obtain rfl := Nat.eq_of_beq_eq_true q2
      obtain rfl := Option.some.inj hv4
      exact ⟨_, two _ _ _ 0 0 hx hmn eh (Nat.le_refl _) el (Nat.le_refl _), by simp [VR]⟩
    | some cc =>
      rw [em, ocase_some] at hv3
      obtain ⟨rfl, hr⟩ := three _ _ _ hx ⟨cc, em, hv3⟩
      exact ⟨_, hr, by simp only [VR]⟩
end Ev
end Go.Proofs.Ytlajbngfdbnoiaa
