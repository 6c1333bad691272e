/- Parts of typing, as walks: an expression. -/
import Derived.Test.YtmhdcehpddbjaaaTyIP
import Derived.Test.YtmhdcehpddbjaaaTyIQ
import Derived.Test.YtmhdcehpddbjaaaTyIR
import Derived.Test.YtmhdcehpddbjaaaTyIS
import Derived.WalkKit
import Derived.WalkSpells
import Derived.WalkLawsBesides
import Derived.LoopTactic
import Derived.Deep.QuietTactic
import Derived.BigQuiet
import Derived.Below
import Derived.Laws.ResultCell
import Derived.Laws.Tables
import Derived.Laws.Rows
import Derived.Deep.Cut
import Derived.KernelRfl
namespace Go.Proofs.Ytmhdcehpddbjaaa
open Go.RowKit

/-- No list is too long. -/
def ExLim : Nat → List Ex → Prop
  | 0, _ => True
  | f + 1, l => l.length ≤ 1000000000 ∧ ∀ e ∈ l, ExLim f e.args
theorem ExsAt.lift {w : World} {B : Nat} {A : Option Addr} (h : ExsAt 0 w B A []) : ExsAt 1 w B A [] := ⟨by simp, Rows.nil_ _ _ _ _, by simp⟩

theorem expr_step (f B b : Nat) (p : Pl) (a : Pa) (e : Ex) (hX : ∀ x ∈ e.args, ExOK f B b p a x) (hlim : e.args.length ≤ 1000000000) (w : World) (t : Ty) (c : Int) (hr : Ty.expr p e = (t, c)) (h : PlAt w B b p a) (he : ExsAt (f + 1) w B e.A e.args) :
    Calls Try.prog 31 #[.pointer (some ⟨b, 0, none⟩), .agg #[.int .i64 e.k, .int .i64 e.n, .string e.name, .string e.what, .slice e.A e.args.length e.c]] w fun r w' => r = .returned (.tuple #[.agg #[.int .i64 t.k, .int .i64 t.lo, .int .i64 t.hi, .string t.name], .int .i64 c]) ∧ Below w.heap.size w w' := by
  by_cases h1 : e.k = 1
  · exact expr_1 f B b p a e hX hlim w t c hr h he h1
  by_cases h2 : e.k = 2
  · exact expr_2 f B b p a e hX hlim w t c hr h he h2
  by_cases h3 : e.k = 3
  · exact expr_3 f B b p a e hX hlim w t c hr h he h3
  by_cases h4 : e.k = 4
  · exact expr_4 f B b p a e hX hlim w t c hr h he h4
  by_cases h5 : e.k = 5
  · exact expr_5 f B b p a e hX hlim w t c hr h he h5
  by_cases h6 : e.k = 6
  · exact expr_6 f B b p a e hX hlim w t c hr h he h6
  by_cases h7 : e.k = 7
  · exact expr_7 f B b p a e hX hlim w t c hr h he h7
  by_cases h8 : e.k = 8
  · exact expr_8 f B b p a e hX hlim w t c hr h he h8
  by_cases h9 : e.k = 9
  · exact expr_9 f B b p a e hX hlim w t c hr h he h9
  by_cases h10 : e.k = 10
  · exact expr_10 f B b p a e hX hlim w t c hr h he h10
  by_cases h11 : e.k = 11
  · exact expr_11 f B b p a e hX hlim w t c hr h he h11
  by_cases h12 : e.k = 12
  · exact expr_12 f B b p a e hX hlim w t c hr h he h12
  by_cases h13 : e.k = 13
  · exact expr_13 f B b p a e hX hlim w t c hr h he h13
  by_cases h14 : e.k = 14
  · exact expr_14 f B b p a e hX hlim w t c hr h he h14
  exact expr_0 f B b p a e hX hlim w t c hr h he ⟨h1, h2, h3, h4, h5, h6, h7, h8, h9, h10, h11, h12, h13, h14⟩
/-- The program's answer of any expression. -/
theorem expr_is (B b : Nat) (p : Pl) (a : Pa) : ∀ (f : Nat) (e : Ex), ExLim f e.args → ExOK f B b p a e
  | 0, e, _ => fun w t c hr h he => by
    have ha : e.args = [] := he
    exact expr_step 0 B b p a e (by rw [ha]; simp) (by rw [ha]; simp) w t c hr h (by rw [ha]; exact ⟨by simp, Rows.nil_ _ _ _ _, by simp⟩)
  | f + 1, e, hl => fun w t c hr h he => expr_step f B b p a e (fun x hx => expr_is B b p a f x (hl.2 x hx)) hl.1 w t c hr h he
end Go.Proofs.Ytmhdcehpddbjaaa
