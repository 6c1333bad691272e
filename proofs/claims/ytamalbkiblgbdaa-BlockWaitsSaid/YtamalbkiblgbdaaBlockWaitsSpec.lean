/- BlockWaits, in plain Lean: a step of so many ticks is two steps of as many. -/
import Derived.Test.YtamalbkiblgbdaaBlockSpec
namespace Go.Proofs.Ytamalbkiblgbdaa
theorem Bk.ton_waits (b : Bk) (i : Bool) (p x y : Int) (_hx : 0 ≤ x) (hy : 0 ≤ y) (_h0 : 0 ≤ b.cv) (h : i = true → b.o = true) : Bk.ton (Bk.ton b i p x) i p y = Bk.ton b i p (x + y) := by
  cases i
  · simp [Bk.ton]
  · have e : min (min (b.cv + x) p + y) p = min (b.cv + (x + y)) p := by omega
    simp [Bk.ton, h rfl, e]
theorem Bk.tof_waits (b : Bk) (i : Bool) (p x y : Int) (_hx : 0 ≤ x) (hy : 0 ≤ y) (_h0 : 0 ≤ b.cv) : Bk.tof (Bk.tof b i p x) i p y = Bk.tof b i p (x + y) := by
  obtain ⟨k, q, l, o, c⟩ := b
  cases i
  · cases q
    · simp [Bk.tof]
    · have e : min (min (c + x) p + y) p = min (c + (x + y)) p := by omega
      by_cases h : min (c + x) p < p
      · simp [Bk.tof, h, e]
      · have e2 : min (c + x) p = min (c + (x + y)) p := by omega
        have e3 : ¬ min (c + (x + y)) p < p := by omega
        simp [Bk.tof, e2, e3]
  · simp [Bk.tof]
theorem Bk.tp_waits (b : Bk) (i : Bool) (p x y : Int) (_hx : 0 ≤ x) (hy : 0 ≤ y) (_h0 : 0 ≤ b.cv) (h : i = true → b.l = true ∨ b.o = true) : Bk.tp (Bk.tp b i p x) i p y = Bk.tp b i p (x + y) := by
  obtain ⟨k, q, l, o, c⟩ := b
  cases o
  · cases i
    · simp [Bk.tp]
    · have : l = true := by simpa using h rfl
      subst this; simp [Bk.tp]
  · have e : min (min (c + x) p + y) p = min (c + (x + y)) p := by omega
    by_cases h : min (c + x) p < p
    · simp [Bk.tp, h, e]
    · have e2 : min (c + x) p = min (c + (x + y)) p := by omega
      have e3 : ¬ min (c + (x + y)) p < p := by omega
      simp [Bk.tp, e2, e3]
/-- The kind stays, and what is counted stays within bounds; the last input is the last input. -/
theorem Bk.ton_stays (b : Bk) (i : Bool) (p x : Int) (h0 : 0 ≤ b.cv) (h1 : b.cv ≤ 32767) (hx : 0 ≤ x) (hp0 : 0 ≤ p) (hp : p ≤ 32767) : (Bk.ton b i p x).k = b.k ∧ (Bk.ton b i p x).l = i ∧ 0 ≤ (Bk.ton b i p x).cv ∧ (Bk.ton b i p x).cv ≤ 32767 := by
  unfold Bk.ton; split <;> (try split) <;> simp_all <;> omega
theorem Bk.tof_stays (b : Bk) (i : Bool) (p x : Int) (h0 : 0 ≤ b.cv) (h1 : b.cv ≤ 32767) (hx : 0 ≤ x) (hp0 : 0 ≤ p) (hp : p ≤ 32767) : (Bk.tof b i p x).k = b.k ∧ (Bk.tof b i p x).l = i ∧ 0 ≤ (Bk.tof b i p x).cv ∧ (Bk.tof b i p x).cv ≤ 32767 := by
  unfold Bk.tof; split <;> (try split) <;> simp_all <;> omega
theorem Bk.tp_stays (b : Bk) (i : Bool) (p x : Int) (h0 : 0 ≤ b.cv) (h1 : b.cv ≤ 32767) (hx : 0 ≤ x) (hp0 : 0 ≤ p) (hp : p ≤ 32767) : (Bk.tp b i p x).k = b.k ∧ (Bk.tp b i p x).l = i ∧ 0 ≤ (Bk.tp b i p x).cv ∧ (Bk.tp b i p x).cv ≤ 32767 := by
  unfold Bk.tp; split <;> (try split) <;> simp_all <;> omega
end Go.Proofs.Ytamalbkiblgbdaa
