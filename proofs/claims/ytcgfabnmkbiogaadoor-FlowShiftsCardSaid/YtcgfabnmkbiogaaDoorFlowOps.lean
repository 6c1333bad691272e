/- What single instructions do to the stack. -/
import Derived.Test.YtcgfabnmkbiogaaDoorFlowLine
namespace Go.Proofs.YtcgfabnmkbiogaaDoor

/-- A stack of these letters. -/
def tb (L : List UInt8) : ByteArray := ⟨L.toArray⟩
theorem tb_size (L : List UInt8) : (tb L).size = L.length := rfl
theorem tb_list (L : List UInt8) : (tb L).data.toList = L := rfl
theorem tb_inj {L M : List UInt8} (h : tb L = tb M) : L = M := by rw [← tb_list L, h, tb_list]
theorem tb_app (L M : List UInt8) : tb L ++ tb M = tb (L ++ M) := by
  apply ByteArray.ext
  simp [tb]
theorem tb_e : Fl.e = tb [] := rfl
theorem Fl.cut_nil (L : List UInt8) : Fl.cut (tb L) Fl.e = some (tb L) := by
  have h : Lib.hasSuffix L [] = true := by unfold Lib.hasSuffix; rw [List.isSuffixOf_iff_suffix]; exact List.nil_suffix
  unfold Fl.cut
  rw [tb_e, tb_list, tb_list, if_pos h]
  unfold Lib.trimSuffix
  rw [if_pos h]; simp [tb]
theorem Fl.cut_one (L : List UInt8) (a : UInt8) : Fl.cut (tb (L ++ [a])) (tb [a]) = some (tb L) := by
  have h : Lib.hasSuffix (L ++ [a]) [a] = true := by unfold Lib.hasSuffix; rw [List.isSuffixOf_iff_suffix]; exact List.suffix_append _ _
  unfold Fl.cut
  rw [tb_list, tb_list, if_pos h]
  unfold Lib.trimSuffix
  rw [if_pos h]; simp [tb]
section
variable (x : Img) (c : Cod) (L : List UInt8)
theorem after_same (o : Opr) (u : ByteArray) (hm : Op.may o.k o.a o.b = true) (he : Fl.effect x c o.k o.a o.b = some (Fl.e, u)) (hk : o.k ≠ 34) : Fl.after x c o (tb L) = some (tb L ++ u) := by
  unfold Fl.after
  rw [if_pos hm, he]
  simp only [hk, false_and, if_false, Fl.takes, Fl.cut_nil]
theorem after_push (a : Int) (h : -32768 ≤ a ∧ a ≤ 32767) : Fl.after x c ⟨1, a, 0⟩ (tb L) = some (tb (L ++ [105])) := by
  rw [after_same x c L ⟨1, a, 0⟩ Fl.i (by simp [Op.may, Op.operands, Op.win]; omega) (by simp [Fl.effect]) (by simp)]
  exact congrArg _ (tb_app _ _)
theorem after_null : Fl.after x c ⟨2, 0, 0⟩ (tb L) = some (tb (L ++ [114])) := by
  rw [after_same x c L ⟨2, 0, 0⟩ Fl.r (by decide) (by simp [Fl.effect]) (by simp)]
  exact congrArg _ (tb_app _ _)
theorem after_tick : Fl.after x c ⟨35, 1, 0⟩ (tb L) = some (tb L) := by
  rw [after_same x c L ⟨35, 1, 0⟩ Fl.e (by decide) (by simp [Fl.effect]) (by simp), tb_e, tb_app, List.append_nil]
theorem after_jump (a : Int) (h : 0 ≤ a ∧ a ≤ 10000) : Fl.after x c ⟨21, a, 0⟩ (tb L) = some (tb L) := by
  rw [after_same x c L ⟨21, a, 0⟩ Fl.e (by simp [Op.may, Op.operands, Op.win]; omega) (by simp [Fl.effect]) (by simp), tb_e, tb_app, List.append_nil]
theorem after_jump_no (a : Int) (h : ¬ (0 ≤ a ∧ a ≤ 10000)) (t : ByteArray) : Fl.after x c ⟨21, a, 0⟩ t = none := by
  unfold Fl.after
  rw [if_neg]
  simp [Op.may, Op.operands, Op.win]; omega
theorem after_ret (h : c.ret = false) : Fl.after x c ⟨29, 0, 0⟩ (tb L) = some (tb L) := by
  rw [after_same x c L ⟨29, 0, 0⟩ Fl.e (by decide) (by simp [Fl.effect, h]) (by simp), tb_e, tb_app, List.append_nil]
theorem after_retv (h : c.ret = true) : Fl.after x c ⟨30, 0, 0⟩ (tb (L ++ [105])) = some (tb L) := by
  unfold Fl.after
  rw [if_pos (by decide), show Fl.effect x c 30 0 0 = some (Fl.i, Fl.e) by simp [Fl.effect, h]]
  have ht : Fl.takes 30 (tb (L ++ [105])) Fl.i = tb [105] := by unfold Fl.takes; rw [if_neg (by simp)]; rfl
  simp only [ht, Fl.cut_one]
  simp [tb_e, tb_app]
theorem after_false (a : Int) (h : 0 ≤ a ∧ a ≤ 10000) : Fl.after x c ⟨22, a, 0⟩ (tb (L ++ [105])) = some (tb L) := by
  unfold Fl.after
  rw [if_pos (by simp [Op.may, Op.operands, Op.win]; omega), show Fl.effect x c 22 a 0 = some (Fl.i, Fl.e) by simp [Fl.effect]]
  have ht : Fl.takes 22 (tb (L ++ [105])) Fl.i = tb [105] := by unfold Fl.takes; rw [if_neg (by simp)]; rfl
  simp only [ht, Fl.cut_one]
  simp [tb_e, tb_app]
theorem after_pop (a : UInt8) : Fl.after x c ⟨34, 0, 0⟩ (tb (L ++ [a])) = some (tb L) := by
  have hs : (tb (L ++ [a])).size = L.length + 1 := by rw [tb_size]; simp
  have ht : Fl.takes 34 (tb (L ++ [a])) Fl.e = tb [a] := by
    unfold Fl.takes
    rw [if_pos ⟨rfl, by omega⟩, hs]
    apply ByteArray.ext
    simp [tb, ByteArray.data_extract]
  unfold Fl.after
  rw [if_pos (by decide), show Fl.effect x c 34 0 0 = some (Fl.e, Fl.e) by simp [Fl.effect]]
  simp only [ht, Fl.cut_one, hs]
  simp [tb_e, tb_app]
theorem after_pop_no : Fl.after x c ⟨34, 0, 0⟩ (tb []) = none := by
  unfold Fl.after
  rw [if_pos (by decide), show Fl.effect x c 34 0 0 = some (Fl.e, Fl.e) by simp [Fl.effect]]
  simp [tb_size]
end
end Go.Proofs.YtcgfabnmkbiogaaDoor
