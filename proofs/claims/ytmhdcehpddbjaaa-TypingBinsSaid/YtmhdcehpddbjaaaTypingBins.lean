/- TypingBins: whatever comes in. -/
import Derived.Test.YtmhdcehpddbjaaaTyBins
namespace Go.Proofs.Ytmhdcehpddbjaaa
open Go.RowKit

def Ex.sd (n : Nat) : Ex := if n = 0 then .mk 1 3 ⟨#[]⟩ ⟨#[]⟩ none [] 0 else if n = 1 then .mk 2 0 ⟨#[]⟩ ⟨#[]⟩ none [] 0 else .mk 4 0 ⟨#[]⟩ ⟨#[]⟩ none [] 0
theorem lt3 {n : Nat} (h : n < 3) : n = 0 ∨ n = 1 ∨ n = 2 := by omega
theorem Ex.sd_cells {n : Nat} (h : n < 3) (j : Nat) (v : Value) (hj : (Ex.sd n).cells[j]? = some v) : Ex.sides[n * 5 + j]? = some v := by
  have hl : j < 5 := (List.getElem?_eq_some_iff.1 hj).1
  have hj5 : j = 0 ∨ j = 1 ∨ j = 2 ∨ j = 3 ∨ j = 4 := by omega
  rcases lt3 h with rfl | rfl | rfl <;> rcases hj5 with rfl | rfl | rfl | rfl | rfl <;> exact hj
theorem Ex.sd_args {n : Nat} (h : n < 3) : (Ex.sd n).args = [] := by rcases lt3 h with rfl | rfl | rfl <;> rfl
theorem Ex.sd_is (p : Pl) {n : Nat} (h : n < 3) : Ty.expr p (Ex.sd n) = (Ty.of (Ex.sk n), 0) := by
  rcases lt3 h with rfl | rfl | rfl <;> (rw [Ty.expr_eq]; simp [Ty.exprG, Ty.args, Ex.sd, Ex.sk, Ex.k, Ex.args])
theorem Ex.bn_is (p : Pl) (op : Int) (g : Nat) {m n : Nat} (hm : m < 3) (hn : n < 3) : Ty.expr p (Ex.bn op g (Ex.sd m) (Ex.sd n)) = Ty.bin op (Ty.of (Ex.sk m), 0) (Ty.of (Ex.sk n), 0) := by
  rw [Ty.expr_eq]
  show Ty.exprG p 9 op _ _ [Ty.expr p (Ex.sd m), Ty.expr p (Ex.sd n)] = _
  rw [Ex.sd_is p hm, Ex.sd_is p hn]
  simp [Ty.exprG, Ty.args, Ty.hd, Ty.hd2]
theorem typingBins_any (x y z : Int) (w : World) :
    Calls Try.prog 7 #[.int .i64 x, .int .i64 y, .int .i64 z] w fun z w' => z = .returned (.bool true) ∧ Below w.heap.size w w' := by
  have h1 := low_in x 18 (by decide)
  have h2 := low_in y 3 (by decide)
  have h3 := low_in z 3 (by decide)
  obtain ⟨ia, hia⟩ := Int.eq_ofNat_of_zero_le h2.1
  obtain ⟨ib, hib⟩ := Int.eq_ofNat_of_zero_le h3.1
  obtain ⟨⟨t, c⟩, ht⟩ : ∃ r, Ty.bin (low x 18 - 1) (Ty.of (Ex.sk ia), 0) (Ty.of (Ex.sk ib), 0) = r := ⟨_, rfl⟩
  have ia3 : ia < 3 := by omega
  have ib3 : ib < 3 := by omega
  exact bins_any x y z _ ia ib (Ex.sd ia) (Ex.sd ib) t c w rfl hia hib ia3 ib3 h1.1 h1.2 (Ex.sd_cells ia3) (Ex.sd_cells ib3) (Ex.sd_args ia3) (Ex.sd_args ib3) (fun vb g => by rw [Ex.bn_is _ _ _ ia3 ib3]; exact ht) ht
end Go.Proofs.Ytmhdcehpddbjaaa
