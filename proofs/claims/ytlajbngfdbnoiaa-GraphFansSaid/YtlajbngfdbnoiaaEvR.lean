/- How the small machine's values stand to the model's. -/
import Derived.Test.YtlajbngfdbnoiaaEvB
import Derived.Below
namespace Go.Proofs.Ytlajbngfdbnoiaa
set_option linter.unusedSimpArgs false
set_option linter.unusedVariables false
set_option linter.constructorNameAsVariable false
open Go Go.RowKit
namespace Ev
def binVal (op : BinOp) (k : IntKind) (x y : Int) : Int := match op with
  | .add => k.wrap (x + y) | .sub => k.wrap (x - y) | .mul => k.wrap (x * y)
  | .quo => k.wrap (x.tdiv y) | .rem => x.tmod y
  | .and => k.wrap (BitVec.ofInt k.bits x &&& BitVec.ofInt k.bits y).toNat | .or => k.wrap (BitVec.ofInt k.bits x ||| BitVec.ofInt k.bits y).toNat
  | .xor => k.wrap (BitVec.ofInt k.bits x ^^^ BitVec.ofInt k.bits y).toNat | .andNot => k.wrap (BitVec.ofInt k.bits x &&& ~~~(BitVec.ofInt k.bits y)).toNat
  | .shl => k.wrap (x * 2 ^ (min y.toNat k.bits)) | .shr => x.fdiv (2 ^ (min y.toNat k.bits))
  | _ => 0
def zval (ν : Nat → Int) : Z → Int
  | .lit n => n
  | .var i => ν i
  | .bin op k a b => binVal op k (zval ν a) (zval ν b)
  | .conv k a => k.wrap (zval ν a)
/-- where a block of the small machine lies: block, place, how many cells there are from there -/
abbrev Pl := BP → Option (Nat × Nat × Nat)
def Pl.le (ρ ρ' : Pl) : Prop := ∀ x p, ρ x = some p → ρ' x = some p
theorem Pl.le_refl (ρ : Pl) : ρ.le ρ := fun _ _ h => h
theorem Pl.le_trans {a b c : Pl} (h : a.le b) (k : b.le c) : a.le c := fun x p e => k x p (h x p e)
variable (ν : Nat → Int)
def SR : List Z → List UInt8 → Prop
  | [], [] => True
  | z :: l, b :: m => zval ν z = (b.toNat : Int) ∧ SR l m
  | _, _ => False
section
variable (ρ : Pl)
mutual
def VR : V → Value → Prop
  | .x, _ => True
  | .b x, u => u = .bool x
  | .i k z, u => u = .int k (zval ν z)
  | .s l, u => ∃ s : ByteArray, u = .string s ∧ SR ν l s.data.toList
  | .p0, u => u = .pointer none
  | .p x o, u => ∃ b c n, ρ x = some (b, c, n) ∧ u = .pointer (some ⟨b, c + o, none⟩)
  | .s0, u => u = .slice none 0 0
  | .e _ _, u => ∃ p, u = .slice (some p) 0 0
  | .sl x o sz len, u => ∃ b c n cap p, ρ x = some (b, c, n) ∧ u = .slice (some p) len cap ∧ len ≤ cap ∧ (cap ≠ 0 → p = ⟨b, c + o, none⟩ ∧ o + cap * sz ≤ n)
  | .f0, u => u = .nilFunc
  | .f g a c, u => ∃ xs ys, u = .func (.func g) xs ys ∧ VRs a xs.toList ∧ VRs c ys.toList
  | .n0, u => u = .nilIface
  | .n t v, u => ∃ w, u = .iface t w ∧ VR v w
  | .g l, u => ∃ cs, u = .agg cs ∧ VRs l cs.toList
  | .u l, u => ∃ cs, u = .tuple cs ∧ VRs l cs.toList
  | .m0, u => u = .map none
  | .m x, u => ∃ b n, ρ x = some (b, 0, n) ∧ u = .map (some b)
def VRs : List V → List Value → Prop
  | [], l => l = []
  | v :: vs, l => ∃ u us, l = u :: us ∧ VR v u ∧ VRs vs us
end
end
mutual
theorem VR.mono {ρ ρ' : Pl} (h : ρ.le ρ') : ∀ (v : V) (u : Value), VR ν ρ v u → VR ν ρ' v u
  | .x, _, _ => by simp only [VR]
  | .b x, u, k => by simpa only [VR] using k
  | .i _ z, u, k => by simpa only [VR] using k
  | .s l, u, k => by simpa only [VR] using k
  | .p0, u, k => by simpa only [VR] using k
  | .p x o, u, k => by simp only [VR] at k ⊢; obtain ⟨b, c, n, e, k⟩ := k; exact ⟨b, c, n, h _ _ e, k⟩
  | .s0, u, k => by simpa only [VR] using k
  | .e x o, u, k => by simpa only [VR] using k
  | .sl x o sz len, u, k => by simp only [VR] at k ⊢; obtain ⟨b, c, n, cap, p, e, k⟩ := k; exact ⟨b, c, n, cap, p, h _ _ e, k⟩
  | .f0, u, k => by simpa only [VR] using k
  | .f g a c, u, k => by simp only [VR] at k ⊢; obtain ⟨xs, ys, e, k1, k2⟩ := k; exact ⟨xs, ys, e, VRs.mono h _ _ k1, VRs.mono h _ _ k2⟩
  | .n0, u, k => by simpa only [VR] using k
  | .n t v, u, k => by simp only [VR] at k ⊢; obtain ⟨w, e, k⟩ := k; exact ⟨w, e, VR.mono h _ _ k⟩
  | .g l, u, k => by simp only [VR] at k ⊢; obtain ⟨w, e, k⟩ := k; exact ⟨w, e, VRs.mono h _ _ k⟩
  | .u l, u, k => by simp only [VR] at k ⊢; obtain ⟨w, e, k⟩ := k; exact ⟨w, e, VRs.mono h _ _ k⟩
  | .m0, u, k => by simpa only [VR] using k
  | .m x, u, k => by simp only [VR] at k ⊢; obtain ⟨b, n, e, k⟩ := k; exact ⟨b, n, h _ _ e, k⟩
theorem VRs.mono {ρ ρ' : Pl} (h : ρ.le ρ') : ∀ (v : List V) (u : List Value), VRs ν ρ v u → VRs ν ρ' v u
  | [], _, k => by simpa only [VRs] using k
  | v :: vs, u, k => by simp only [VRs] at k ⊢; obtain ⟨u, us, e, k1, k2⟩ := k; exact ⟨u, us, e, VR.mono h _ _ k1, VRs.mono h _ _ k2⟩
end
variable {ν} {ρ : Pl}
theorem VRs.get : ∀ {l : List V} {m : List Value}, VRs ν ρ l m → ∀ {i : Nat} {v : V}, l[i]? = some v → ∃ u, m[i]? = some u ∧ VR ν ρ v u
  | [], m, h, i, v, e => by simp at e
  | a :: l, m, h, i, v, e => by
    simp only [VRs] at h
    obtain ⟨u, us, rfl, h1, h2⟩ := h
    cases i with
    | zero => obtain rfl : a = v := by simpa using e
              exact ⟨u, rfl, h1⟩
    | succ i => simpa using VRs.get h2 (by simpa using e)
theorem VRs.length : ∀ {l : List V} {m : List Value}, VRs ν ρ l m → m.length = l.length
  | [], m, h => by simp only [VRs] at h; subst h; rfl
  | a :: l, m, h => by
    simp only [VRs] at h
    obtain ⟨u, us, rfl, h1, h2⟩ := h
    simp [VRs.length h2]
theorem VRs.of_get : ∀ {l : List V} {m : List Value}, m.length = l.length → (∀ (i : Nat) (v : V), l[i]? = some v → ∃ u, m[i]? = some u ∧ VR ν ρ v u) → VRs ν ρ l m
  | [], m, h, _ => by simp only [VRs]; exact List.eq_nil_of_length_eq_zero h
  | a :: l, [], h, _ => by simp at h
  | a :: l, u :: m, h, k => by
    simp only [VRs]
    refine ⟨u, m, rfl, ?_, VRs.of_get (by simpa using h) (fun i v e => by simpa using k (i + 1) v (by simpa using e))⟩
    obtain ⟨u', e, k⟩ := k 0 a rfl
    obtain rfl : u = u' := by simpa using e
    exact k
theorem VRs.app {l l' : List V} {m m' : List Value} (h : VRs ν ρ l m) (h' : VRs ν ρ l' m') : VRs ν ρ (l ++ l') (m ++ m') := by
  induction l generalizing m with
  | nil => simp only [VRs] at h; subst h; simpa using h'
  | cons a l ih =>
    simp only [VRs] at h
    obtain ⟨u, us, rfl, h1, h2⟩ := h
    simp only [List.cons_append, VRs]
    exact ⟨u, us ++ m', rfl, h1, ih h2⟩
theorem VRs.drop {l : List V} {m : List Value} (h : VRs ν ρ l m) (n : Nat) : VRs ν ρ (l.drop n) (m.drop n) :=
  VRs.of_get (by simp [h.length]) (fun i v e => by rw [List.getElem?_drop] at e ⊢; exact h.get e)
theorem VRs.take {l : List V} {m : List Value} (h : VRs ν ρ l m) (n : Nat) : VRs ν ρ (l.take n) (m.take n) :=
  VRs.of_get (by simp [h.length]) (fun i v e => by
    rw [List.getElem?_take] at e ⊢
    split at e
    · rename_i hi; simp only [hi, if_true]; exact h.get e
    · simp at e)
theorem SR.length : ∀ {l : List Z} {m : List UInt8}, SR ν l m → m.length = l.length
  | [], [], _ => rfl
  | [], _ :: _, h => h.elim
  | _ :: _, [], h => h.elim
  | _ :: l, _ :: m, h => by simp [SR.length h.2]
theorem SR.get : ∀ {l : List Z} {m : List UInt8}, SR ν l m → ∀ {i : Nat} {z : Z}, l[i]? = some z → ∃ b, m[i]? = some b ∧ zval ν z = (b.toNat : Int)
  | [], [], _, i, z, e => by simp at e
  | [], _ :: _, h, _, _, _ => h.elim
  | _ :: _, [], h, _, _, _ => h.elim
  | a :: l, b :: m, h, i, z, e => by
    cases i with
    | zero => obtain rfl : a = z := by simpa using e
              exact ⟨b, rfl, h.1⟩
    | succ i => simpa using SR.get h.2 (by simpa using e)
theorem SR.app : ∀ {l l' : List Z} {m m' : List UInt8}, SR ν l m → SR ν l' m' → SR ν (l ++ l') (m ++ m')
  | [], _, [], _, _, h' => h'
  | [], _, _ :: _, _, h, _ => h.elim
  | _ :: _, _, [], _, h, _ => h.elim
  | _ :: l, _, _ :: m, _, h, h' => ⟨h.1, SR.app h.2 h'⟩
theorem SR.drop : ∀ (n : Nat) {l : List Z} {m : List UInt8}, SR ν l m → SR ν (l.drop n) (m.drop n)
  | 0, _, _, h => h
  | n + 1, [], [], h => h
  | n + 1, [], _ :: _, h => h.elim
  | n + 1, _ :: _, [], h => h.elim
  | n + 1, _ :: l, _ :: m, h => SR.drop n h.2
theorem SR.take : ∀ (n : Nat) {l : List Z} {m : List UInt8}, SR ν l m → SR ν (l.take n) (m.take n)
  | 0, _, _, _ => trivial
  | n + 1, [], [], h => h
  | n + 1, [], _ :: _, h => h.elim
  | n + 1, _ :: _, [], h => h.elim
  | n + 1, _ :: l, _ :: m, h => ⟨h.1, SR.take n h.2⟩
theorem SR.zs : ∀ {l : List Z} {m : List UInt8}, SR ν l m → VRs ν ρ (zs l) (m.map fun b => Value.int .u8 b.toNat)
  | [], [], _ => by simp [Ev.zs, VRs]
  | [], _ :: _, h => h.elim
  | _ :: _, [], h => h.elim
  | z :: l, b :: m, h => by
    show VRs ν ρ (V.i .u8 z :: Ev.zs l) _
    simp only [VRs, List.map_cons]
    exact ⟨_, _, rfl, by simp only [VR]; rw [h.1], SR.zs h.2⟩
theorem SR.ofBytes : ∀ (m : List UInt8), SR ν (zsOf m) m
  | [] => trivial
  | b :: m => ⟨rfl, SR.ofBytes m⟩
mutual
theorem trVal_sound : ∀ (u : Value) (v : V), trVal u = some v → VR ν ρ v u
  | .bool b, v, h => by simp only [trVal, Option.some.injEq] at h; subst h; simp [VR]
  | .int k n, v, h => by simp only [trVal, Option.some.injEq] at h; subst h; simp [VR, zval]
  | .string s, v, h => by simp only [trVal, Option.some.injEq] at h; subst h; simp only [VR]; exact ⟨s, rfl, SR.ofBytes _⟩
  | .pointer none, v, h => by simp only [trVal, Option.some.injEq] at h; subst h; simp [VR]
  | .pointer (some _), v, h => by simp [trVal] at h
  | .slice a n c, v, h => by
    unfold trVal at h
    split at h <;> simp_all
    all_goals (subst h; simp [VR])
  | .map a, v, h => by
    unfold trVal at h
    split at h <;> simp_all
    all_goals (subst h; simp [VR])
  | .func f a c, v, h => by
    unfold trVal at h
    split at h <;> simp_all
    all_goals (subst h; simp [VR, VRs])
  | .nilFunc, v, h => by simp only [trVal, Option.some.injEq] at h; subst h; simp [VR]
  | .nilIface, v, h => by simp only [trVal, Option.some.injEq] at h; subst h; simp [VR]
  | .iface t w, v, h => by
    simp only [trVal] at h
    split at h
    · rename_i v' e
      obtain rfl := Option.some.inj h
      simp only [VR]
      exact ⟨w, rfl, trVal_sound w v' e⟩
    · cases h
  | .agg ⟨l⟩, v, h => by
    simp only [trVal] at h
    split at h
    · rename_i v' e
      obtain rfl := Option.some.inj h
      simp only [VR]
      exact ⟨⟨l⟩, rfl, trVals_sound l v' e⟩
    · cases h
  | .tuple ⟨l⟩, v, h => by
    simp only [trVal] at h
    split at h
    · rename_i v' e
      obtain rfl := Option.some.inj h
      simp only [VR]
      exact ⟨⟨l⟩, rfl, trVals_sound l v' e⟩
    · cases h
  | .float _ _, v, h => by simp [trVal] at h
  | .complex _ _ _, v, h => by simp [trVal] at h
  | .chan _, v, h => by simp [trVal] at h
theorem trVals_sound : ∀ (u : List Value) (v : List V), trVals u = some v → VRs ν ρ v u
  | [], v, h => by simp only [trVals, Option.some.injEq] at h; subst h; simp [VRs]
  | u :: us, v, h => by
    simp only [trVals] at h
    split at h
    · rename_i a b e1 e2
      obtain rfl := Option.some.inj h
      simp only [VRs]
      exact ⟨u, us, rfl, trVal_sound u a e1, trVals_sound us b e2⟩
    · cases h
end
theorem cells_one {v : V} {u : Value} (hx : v ≠ .x) (hg : ∀ l, v ≠ .g l) (h : VR ν ρ v u) : u.cells = #[u] := by
  cases u with
  | agg cs => cases v <;> simp_all [VR]
  | _ => rfl
theorem cellsV_sound {v : V} {u : Value} (hx : v ≠ .x) (h : VR ν ρ v u) : VRs ν ρ (cellsV v) u.cells.toList := by
  by_cases hg : ∃ l, v = .g l
  · obtain ⟨l, rfl⟩ := hg
    simp only [VR] at h
    obtain ⟨cs, rfl, k⟩ := h; exact k
  · rw [cells_one hx (fun l e => hg ⟨l, e⟩) h]
    have : cellsV v = [v] := by cases v <;> first | rfl | exact absurd ⟨_, rfl⟩ hg
    rw [this]; simp only [VRs]; exact ⟨u, [], rfl, h, rfl⟩
/-- one cell -/
theorem VR.one {v : V} {u : Value} (h : VR ν ρ v u) (h1 : oneV v = true) : u.oneCell' = true := by
  cases v <;> first
    | exact absurd h1 (by decide)
    | (simp only [VR] at h; subst h; rfl)
    | (simp only [VR] at h; obtain ⟨_, h⟩ := h; subst h; rfl)
    | (simp only [VR] at h; obtain ⟨_, h, _⟩ := h; subst h; rfl)
    | (simp only [VR] at h; obtain ⟨_, _, h, _⟩ := h; subst h; rfl)
    | (simp only [VR] at h; obtain ⟨_, _, _, h⟩ := h; subst h; rfl)
    | (simp only [VR] at h; obtain ⟨_, _, _, _, h⟩ := h; subst h; rfl)
    | (simp only [VR] at h; obtain ⟨_, _, _, _, _, _, h, _⟩ := h; subst h; rfl)
    | (exact absurd h1 (by simp [oneV]))
theorem undef_iff {u : Value} : VR ν ρ (.u []) u ↔ u = undef := by
  simp only [VR, VRs]
  constructor
  · rintro ⟨cs, rfl, h⟩
    have : cs = #[] := by cases cs; simp_all
    rw [this]; rfl
  · rintro rfl; exact ⟨#[], rfl, rfl⟩
end Ev
end Go.Proofs.Ytlajbngfdbnoiaa
