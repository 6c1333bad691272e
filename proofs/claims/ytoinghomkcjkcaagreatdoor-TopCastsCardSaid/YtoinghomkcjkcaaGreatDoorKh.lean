/- Is a text a word of the language? The words by one evaluation. -/
import Derived.Test.YtoinghomkcjkcaaGreatDoorKf
import Derived.Test.YtoinghomkcjkcaaGreatDoorKe
import Derived.Test.YtoinghomkcjkcaaGreatDoorKg
import Derived.Test.YtoinghomkcjkcaaGreatDoorProg
import Derived.WalkKit
import Derived.WalkSpells
import Derived.WalkLawsBesides
import Derived.LoopTactic
import Derived.Deep.QuietTactic
import Derived.BigQuiet
import Derived.Below
import Derived.KernelRfl
namespace Go.Proofs.YtoinghomkcjkcaaGreatDoor
set_option linter.constructorNameAsVariable false
set_option linter.unusedVariables false
set_option linter.unusedSimpArgs false
open Go Go.RowKit
open Ev

/-- The words. -/
def Tp.keys : List ByteArray := [⟨#[73, 78, 84, 69, 82, 70, 65, 67, 69]⟩, ⟨#[69, 78, 68, 95, 73, 78, 84, 69, 82, 70, 65, 67, 69]⟩, ⟨#[67, 76, 65, 83, 83]⟩, ⟨#[69, 78, 68, 95, 67, 76, 65, 83, 83]⟩, ⟨#[80, 82, 79, 71, 82, 65, 77]⟩, ⟨#[69, 78, 68, 95, 80, 82, 79, 71, 82, 65, 77]⟩, ⟨#[77, 69, 84, 72, 79, 68]⟩, ⟨#[69, 78, 68, 95, 77, 69, 84, 72, 79, 68]⟩, ⟨#[84, 65, 83, 75]⟩, ⟨#[73, 78, 84, 69, 82, 86, 65, 76]⟩, ⟨#[80, 82, 73, 79, 82, 73, 84, 89]⟩, ⟨#[69, 88, 84, 69, 78, 68, 83]⟩, ⟨#[73, 77, 80, 76, 69, 77, 69, 78, 84, 83]⟩, ⟨#[65, 66, 83, 84, 82, 65, 67, 84]⟩, ⟨#[70, 73, 78, 65, 76]⟩, ⟨#[79, 86, 69, 82, 82, 73, 68, 69]⟩, ⟨#[86, 65, 82]⟩, ⟨#[65, 84]⟩, ⟨#[73, 78]⟩, ⟨#[79, 85, 84]⟩, ⟨#[73, 78, 84]⟩, ⟨#[66, 79, 79, 76]⟩, ⟨#[82, 69, 65, 76]⟩, ⟨#[76, 82, 69, 65, 76]⟩, ⟨#[65, 82, 82, 65, 89]⟩, ⟨#[79, 70]⟩, ⟨#[82, 69, 70, 95, 84, 79]⟩, ⟨#[82, 69, 70]⟩, ⟨#[84, 79, 78]⟩, ⟨#[84, 79, 70]⟩, ⟨#[84, 80]⟩, ⟨#[67, 84, 85]⟩, ⟨#[67, 84, 68]⟩, ⟨#[82, 95, 84, 82, 73, 71]⟩, ⟨#[70, 95, 84, 82, 73, 71]⟩, ⟨#[84, 82, 85, 69]⟩, ⟨#[70, 65, 76, 83, 69]⟩, ⟨#[78, 85, 76, 76]⟩, ⟨#[84, 72, 73, 83]⟩, ⟨#[83, 85, 80, 69, 82]⟩, ⟨#[65, 83]⟩, ⟨#[78, 79, 84]⟩, ⟨#[65, 78, 68]⟩, ⟨#[79, 82]⟩, ⟨#[88, 79, 82]⟩, ⟨#[77, 79, 68]⟩, ⟨#[73, 70]⟩, ⟨#[84, 72, 69, 78]⟩, ⟨#[69, 76, 83, 73, 70]⟩, ⟨#[69, 76, 83, 69]⟩, ⟨#[69, 78, 68, 95, 73, 70]⟩, ⟨#[67, 65, 83, 69]⟩, ⟨#[69, 78, 68, 95, 67, 65, 83, 69]⟩, ⟨#[87, 72, 73, 76, 69]⟩, ⟨#[68, 79]⟩, ⟨#[69, 78, 68, 95, 87, 72, 73, 76, 69]⟩, ⟨#[70, 79, 82]⟩, ⟨#[84, 79]⟩, ⟨#[66, 89]⟩, ⟨#[69, 78, 68, 95, 70, 79, 82]⟩, ⟨#[82, 69, 84, 85, 82, 78]⟩, ⟨#[69, 88, 73, 84]⟩, ⟨#[83, 84, 69, 80]⟩, ⟨#[68, 79, 78, 69]⟩, ⟨#[67, 79, 85, 78, 84]⟩]
def Tp.keysZ : List (List Z) := [[.lit 73, .lit 78, .lit 84, .lit 69, .lit 82, .lit 70, .lit 65, .lit 67, .lit 69], [.lit 69, .lit 78, .lit 68, .lit 95, .lit 73, .lit 78, .lit 84, .lit 69, .lit 82, .lit 70, .lit 65, .lit 67, .lit 69], [.lit 67, .lit 76, .lit 65, .lit 83, .lit 83], [.lit 69, .lit 78, .lit 68, .lit 95, .lit 67, .lit 76, .lit 65, .lit 83, .lit 83], [.lit 80, .lit 82, .lit 79, .lit 71, .lit 82, .lit 65, .lit 77], [.lit 69, .lit 78, .lit 68, .lit 95, .lit 80, .lit 82, .lit 79, .lit 71, .lit 82, .lit 65, .lit 77], [.lit 77, .lit 69, .lit 84, .lit 72, .lit 79, .lit 68], [.lit 69, .lit 78, .lit 68, .lit 95, .lit 77, .lit 69, .lit 84, .lit 72, .lit 79, .lit 68], [.lit 84, .lit 65, .lit 83, .lit 75], [.lit 73, .lit 78, .lit 84, .lit 69, .lit 82, .lit 86, .lit 65, .lit 76], [.lit 80, .lit 82, .lit 73, .lit 79, .lit 82, .lit 73, .lit 84, .lit 89], [.lit 69, .lit 88, .lit 84, .lit 69, .lit 78, .lit 68, .lit 83], [.lit 73, .lit 77, .lit 80, .lit 76, .lit 69, .lit 77, .lit 69, .lit 78, .lit 84, .lit 83], [.lit 65, .lit 66, .lit 83, .lit 84, .lit 82, .lit 65, .lit 67, .lit 84], [.lit 70, .lit 73, .lit 78, .lit 65, .lit 76], [.lit 79, .lit 86, .lit 69, .lit 82, .lit 82, .lit 73, .lit 68, .lit 69], [.lit 86, .lit 65, .lit 82], [.lit 65, .lit 84], [.lit 73, .lit 78], [.lit 79, .lit 85, .lit 84], [.lit 73, .lit 78, .lit 84], [.lit 66, .lit 79, .lit 79, .lit 76], [.lit 82, .lit 69, .lit 65, .lit 76], [.lit 76, .lit 82, .lit 69, .lit 65, .lit 76], [.lit 65, .lit 82, .lit 82, .lit 65, .lit 89], [.lit 79, .lit 70], [.lit 82, .lit 69, .lit 70, .lit 95, .lit 84, .lit 79], [.lit 82, .lit 69, .lit 70], [.lit 84, .lit 79, .lit 78], [.lit 84, .lit 79, .lit 70], [.lit 84, .lit 80], [.lit 67, .lit 84, .lit 85], [.lit 67, .lit 84, .lit 68], [.lit 82, .lit 95, .lit 84, .lit 82, .lit 73, .lit 71], [.lit 70, .lit 95, .lit 84, .lit 82, .lit 73, .lit 71], [.lit 84, .lit 82, .lit 85, .lit 69], [.lit 70, .lit 65, .lit 76, .lit 83, .lit 69], [.lit 78, .lit 85, .lit 76, .lit 76], [.lit 84, .lit 72, .lit 73, .lit 83], [.lit 83, .lit 85, .lit 80, .lit 69, .lit 82], [.lit 65, .lit 83], [.lit 78, .lit 79, .lit 84], [.lit 65, .lit 78, .lit 68], [.lit 79, .lit 82], [.lit 88, .lit 79, .lit 82], [.lit 77, .lit 79, .lit 68], [.lit 73, .lit 70], [.lit 84, .lit 72, .lit 69, .lit 78], [.lit 69, .lit 76, .lit 83, .lit 73, .lit 70], [.lit 69, .lit 76, .lit 83, .lit 69], [.lit 69, .lit 78, .lit 68, .lit 95, .lit 73, .lit 70], [.lit 67, .lit 65, .lit 83, .lit 69], [.lit 69, .lit 78, .lit 68, .lit 95, .lit 67, .lit 65, .lit 83, .lit 69], [.lit 87, .lit 72, .lit 73, .lit 76, .lit 69], [.lit 68, .lit 79], [.lit 69, .lit 78, .lit 68, .lit 95, .lit 87, .lit 72, .lit 73, .lit 76, .lit 69], [.lit 70, .lit 79, .lit 82], [.lit 84, .lit 79], [.lit 66, .lit 89], [.lit 69, .lit 78, .lit 68, .lit 95, .lit 70, .lit 79, .lit 82], [.lit 82, .lit 69, .lit 84, .lit 85, .lit 82, .lit 78], [.lit 69, .lit 88, .lit 73, .lit 84], [.lit 83, .lit 84, .lit 69, .lit 80], [.lit 68, .lit 79, .lit 78, .lit 69], [.lit 67, .lit 79, .lit 85, .lit 78, .lit 84]]
def Tp.asc : List V := [.i .u8 (.lit 0), .i .u8 (.lit 0), .i .u8 (.lit 0), .i .u8 (.lit 0), .i .u8 (.lit 0), .i .u8 (.lit 0), .i .u8 (.lit 0), .i .u8 (.lit 0), .i .u8 (.lit 0), .i .u8 (.lit 1), .i .u8 (.lit 1), .i .u8 (.lit 1), .i .u8 (.lit 1), .i .u8 (.lit 1), .i .u8 (.lit 0), .i .u8 (.lit 0), .i .u8 (.lit 0), .i .u8 (.lit 0), .i .u8 (.lit 0), .i .u8 (.lit 0), .i .u8 (.lit 0), .i .u8 (.lit 0), .i .u8 (.lit 0), .i .u8 (.lit 0), .i .u8 (.lit 0), .i .u8 (.lit 0), .i .u8 (.lit 0), .i .u8 (.lit 0), .i .u8 (.lit 0), .i .u8 (.lit 0), .i .u8 (.lit 0), .i .u8 (.lit 0), .i .u8 (.lit 1), .i .u8 (.lit 0), .i .u8 (.lit 0), .i .u8 (.lit 0), .i .u8 (.lit 0), .i .u8 (.lit 0), .i .u8 (.lit 0), .i .u8 (.lit 0), .i .u8 (.lit 0), .i .u8 (.lit 0), .i .u8 (.lit 0), .i .u8 (.lit 0), .i .u8 (.lit 0), .i .u8 (.lit 0), .i .u8 (.lit 0), .i .u8 (.lit 0), .i .u8 (.lit 0), .i .u8 (.lit 0), .i .u8 (.lit 0), .i .u8 (.lit 0), .i .u8 (.lit 0), .i .u8 (.lit 0), .i .u8 (.lit 0), .i .u8 (.lit 0), .i .u8 (.lit 0), .i .u8 (.lit 0), .i .u8 (.lit 0), .i .u8 (.lit 0), .i .u8 (.lit 0), .i .u8 (.lit 0), .i .u8 (.lit 0), .i .u8 (.lit 0), .i .u8 (.lit 0), .i .u8 (.lit 0), .i .u8 (.lit 0), .i .u8 (.lit 0), .i .u8 (.lit 0), .i .u8 (.lit 0), .i .u8 (.lit 0), .i .u8 (.lit 0), .i .u8 (.lit 0), .i .u8 (.lit 0), .i .u8 (.lit 0), .i .u8 (.lit 0), .i .u8 (.lit 0), .i .u8 (.lit 0), .i .u8 (.lit 0), .i .u8 (.lit 0), .i .u8 (.lit 0), .i .u8 (.lit 0), .i .u8 (.lit 0), .i .u8 (.lit 0), .i .u8 (.lit 0), .i .u8 (.lit 0), .i .u8 (.lit 0), .i .u8 (.lit 0), .i .u8 (.lit 0), .i .u8 (.lit 0), .i .u8 (.lit 0), .i .u8 (.lit 0), .i .u8 (.lit 0), .i .u8 (.lit 0), .i .u8 (.lit 0), .i .u8 (.lit 0), .i .u8 (.lit 0), .i .u8 (.lit 0), .i .u8 (.lit 0), .i .u8 (.lit 0), .i .u8 (.lit 0), .i .u8 (.lit 0), .i .u8 (.lit 0), .i .u8 (.lit 0), .i .u8 (.lit 0), .i .u8 (.lit 0), .i .u8 (.lit 0), .i .u8 (.lit 0), .i .u8 (.lit 0), .i .u8 (.lit 0), .i .u8 (.lit 0), .i .u8 (.lit 0), .i .u8 (.lit 0), .i .u8 (.lit 0), .i .u8 (.lit 0), .i .u8 (.lit 0), .i .u8 (.lit 0), .i .u8 (.lit 0), .i .u8 (.lit 0), .i .u8 (.lit 0), .i .u8 (.lit 0), .i .u8 (.lit 0), .i .u8 (.lit 0), .i .u8 (.lit 0), .i .u8 (.lit 0), .i .u8 (.lit 0), .i .u8 (.lit 0), .i .u8 (.lit 0), .i .u8 (.lit 0), .i .u8 (.lit 0), .i .u8 (.lit 0), .i .u8 (.lit 0), .i .u8 (.lit 0), .i .u8 (.lit 0), .i .u8 (.lit 0), .i .u8 (.lit 0), .i .u8 (.lit 0), .i .u8 (.lit 0), .i .u8 (.lit 0), .i .u8 (.lit 0), .i .u8 (.lit 0), .i .u8 (.lit 0), .i .u8 (.lit 0), .i .u8 (.lit 0), .i .u8 (.lit 0), .i .u8 (.lit 0), .i .u8 (.lit 0), .i .u8 (.lit 0), .i .u8 (.lit 0), .i .u8 (.lit 0), .i .u8 (.lit 0), .i .u8 (.lit 0), .i .u8 (.lit 0), .i .u8 (.lit 0), .i .u8 (.lit 0), .i .u8 (.lit 0), .i .u8 (.lit 0), .i .u8 (.lit 0), .i .u8 (.lit 0), .i .u8 (.lit 0), .i .u8 (.lit 0), .i .u8 (.lit 0), .i .u8 (.lit 0), .i .u8 (.lit 0), .i .u8 (.lit 0), .i .u8 (.lit 0), .i .u8 (.lit 0), .i .u8 (.lit 0), .i .u8 (.lit 0), .i .u8 (.lit 0), .i .u8 (.lit 0), .i .u8 (.lit 0), .i .u8 (.lit 0), .i .u8 (.lit 0), .i .u8 (.lit 0), .i .u8 (.lit 0), .i .u8 (.lit 0), .i .u8 (.lit 0), .i .u8 (.lit 0), .i .u8 (.lit 0), .i .u8 (.lit 0), .i .u8 (.lit 0), .i .u8 (.lit 0), .i .u8 (.lit 0), .i .u8 (.lit 0), .i .u8 (.lit 0), .i .u8 (.lit 0), .i .u8 (.lit 0), .i .u8 (.lit 0), .i .u8 (.lit 0), .i .u8 (.lit 0), .i .u8 (.lit 0), .i .u8 (.lit 0), .i .u8 (.lit 0), .i .u8 (.lit 0), .i .u8 (.lit 0), .i .u8 (.lit 0), .i .u8 (.lit 0), .i .u8 (.lit 0), .i .u8 (.lit 0), .i .u8 (.lit 0), .i .u8 (.lit 0), .i .u8 (.lit 0), .i .u8 (.lit 0), .i .u8 (.lit 0), .i .u8 (.lit 0), .i .u8 (.lit 0), .i .u8 (.lit 0), .i .u8 (.lit 0), .i .u8 (.lit 0), .i .u8 (.lit 0), .i .u8 (.lit 0), .i .u8 (.lit 0), .i .u8 (.lit 0), .i .u8 (.lit 0), .i .u8 (.lit 0), .i .u8 (.lit 0), .i .u8 (.lit 0), .i .u8 (.lit 0), .i .u8 (.lit 0), .i .u8 (.lit 0), .i .u8 (.lit 0), .i .u8 (.lit 0), .i .u8 (.lit 0), .i .u8 (.lit 0), .i .u8 (.lit 0), .i .u8 (.lit 0), .i .u8 (.lit 0), .i .u8 (.lit 0), .i .u8 (.lit 0), .i .u8 (.lit 0), .i .u8 (.lit 0), .i .u8 (.lit 0), .i .u8 (.lit 0), .i .u8 (.lit 0), .i .u8 (.lit 0), .i .u8 (.lit 0), .i .u8 (.lit 0), .i .u8 (.lit 0), .i .u8 (.lit 0), .i .u8 (.lit 0), .i .u8 (.lit 0), .i .u8 (.lit 0), .i .u8 (.lit 0), .i .u8 (.lit 0), .i .u8 (.lit 0), .i .u8 (.lit 0), .i .u8 (.lit 0), .i .u8 (.lit 0), .i .u8 (.lit 0), .i .u8 (.lit 0), .i .u8 (.lit 0), .i .u8 (.lit 0), .i .u8 (.lit 0), .i .u8 (.lit 0), .i .u8 (.lit 0)]
def Tp.toZ (s : ByteArray) : List Z := s.data.toList.map fun b => Z.lit (b.toNat : Int)
theorem Tp.keysZ_eq : Tp.keysZ = Tp.keys.map Tp.toZ := by kernel_rfl
noncomputable def Tp.allLit : List Z → Bool := List.rec true (fun z _ ih => onLit z false (fun _ => ih))
noncomputable def Tp.inKeys (l : List Z) : Bool := List.rec false (fun k _ ih => bcase (zsBeq k l) ih true) Tp.keysZ
/-- the answer, where a text is told -/
noncomputable def Tp.ovKey (a : V) (h : H) : Option R1 := onS a none (fun s => bcase (Tp.allLit s) none (bcase (Tp.inKeys s) (some (R1.ok (V.b false) h)) (some (R1.ok (V.b true) h))))
theorem Tp.SR_lit {ν : Nat → Int} : ∀ {l : List Z} {m : List UInt8}, SR ν l m → Tp.allLit l = true → l = m.map fun b => Z.lit (b.toNat : Int)
  | [], [], _, _ => rfl
  | [], _ :: _, h, _ => h.elim
  | _ :: _, [], h, _ => h.elim
  | z :: l, b :: m, h, ha => by
    obtain ⟨h1, h2⟩ := h
    cases z with
    | lit n =>
      have ha' : Tp.allLit l = true := ha
      rw [List.map_cons, ← Tp.SR_lit h2 ha', ← h1]; rfl
    | var i => cases (show false = true from ha)
    | bin op k a b => cases (show false = true from ha)
    | conv k a => cases (show false = true from ha)
theorem Tp.SR_toZ {ν : Nat → Int} : ∀ {m m' : List UInt8}, SR ν (m.map fun b => Z.lit (b.toNat : Int)) m' → m' = m
  | [], [], _ => rfl
  | [], _ :: _, h => h.elim
  | _ :: _, [], h => h.elim
  | b :: m, b' :: m', h => by
    obtain ⟨h1, h2⟩ := h
    have e : b' = b := by
      have : (b.toNat : Int) = (b'.toNat : Int) := h1
      exact UInt8.toNat.inj (by omega)
    rw [e, Tp.SR_toZ h2]
theorem Tp.SR_self {ν : Nat → Int} : ∀ m : List UInt8, SR ν (m.map fun b => Z.lit (b.toNat : Int)) m
  | [] => trivial
  | b :: m => ⟨rfl, Tp.SR_self m⟩
theorem Tp.zBeq_refl : ∀ n : Int, zBeq (Z.lit n) (Z.lit n) = true
  | .ofNat n => by show Nat.beq n n = true; simp
  | .negSucc n => by show Nat.beq n n = true; simp
theorem Tp.zsBeq_refl : ∀ m : List UInt8, zsBeq (m.map fun b => Z.lit (b.toNat : Int)) (m.map fun b => Z.lit (b.toNat : Int)) = true
  | [] => rfl
  | b :: m => by
    show bcase (zBeq (Z.lit (b.toNat : Int)) (Z.lit (b.toNat : Int))) false (zsBeq _ _) = true
    rw [Tp.zBeq_refl]; exact Tp.zsBeq_refl m
theorem Tp.toZ_beq (s t : ByteArray) : zsBeq (Tp.toZ s) (Tp.toZ t) = (s.data.toList == t.data.toList) := by
  cases h : (s.data.toList == t.data.toList) with
  | true =>
    have e : s.data.toList = t.data.toList := by simpa using h
    unfold Tp.toZ; rw [e]; exact Tp.zsBeq_refl _
  | false =>
    cases k : zsBeq (Tp.toZ s) (Tp.toZ t) with
    | false => rfl
    | true =>
      have e := zsBeq_eq k
      have e2 : s.data.toList = t.data.toList := (Tp.SR_toZ (ν := fun _ => 0) (by rw [show (s.data.toList.map fun b => Z.lit (b.toNat : Int)) = t.data.toList.map fun b => Z.lit (b.toNat : Int) from e]; exact Tp.SR_self _)).symm
      rw [e2] at h; simp at h
theorem Tp.inKeys_eq (s : ByteArray) : Tp.inKeys (Tp.toZ s) = Tp.keys.any fun t => t.data.toList == s.data.toList := by
  unfold Tp.inKeys
  rw [Tp.keysZ_eq]
  generalize Tp.keys = ks
  induction ks with
  | nil => rfl
  | cons k ks ih =>
    show bcase (zsBeq (Tp.toZ k) (Tp.toZ s)) _ true = _
    rw [Tp.toZ_beq, List.any_cons]
    cases (k.data.toList == s.data.toList) with
    | true => rfl
    | false => exact ih

/-- The cells of a slice that came out. -/
theorem Tp.sl_cells {ν : Nat → Int} {W : Bas} {ρ : Pl} {h : H} {w : World} (R : Rel ν W ρ h w) {v : V} {u : Value} (hv : VR ν ρ v u) {sz : Nat} {cs : List V} (hc : cellsOf h sz v = some cs) (hcs : cs ≠ []) (hsz : 0 < sz) :
    ∃ b o n c us, u = .slice (some ⟨b, o, none⟩) n c ∧ cs.length = n * sz ∧ n ≤ c ∧ b < w.heap.size ∧ VRs ν ρ cs us ∧ ∀ (j : Nat) (x : Value), us[j]? = some x → w.cell? ⟨b, o + j, none⟩ = some x := by
  cases v with
  | sl x off s n =>
    have hc' : bcase (Nat.beq s sz) none (cellsAt h x off (Nat.mul n sz)) = some cs := hc
    obtain ⟨hb, hc'⟩ := bcase_ne hc' (by simp)
    simp only [VR] at hv
    obtain ⟨b, c, m, cap, p, hx, rfl, hle, hp⟩ := hv
    obtain ⟨hl, us, hr, hcell⟩ := cellsAt_some R hx hc'
    have hn : n ≠ 0 := by
      intro h0; subst h0
      rw [show Nat.mul 0 sz = 0 from Nat.zero_mul sz] at hl
      exact hcs (List.eq_nil_of_length_eq_zero hl)
    obtain ⟨rfl, _⟩ := hp (by omega)
    exact ⟨b, c + off, n, cap, us, rfl, hl, hle, (R.lt x b c m hx).1, hr, hcell⟩
  | s0 => exact absurd (Option.some.inj hc).symm hcs
  | e x o => exact absurd (Option.some.inj hc).symm hcs
  | x => cases hc
  | b x => cases hc
  | i k n => cases hc
  | s l => cases hc
  | p0 => cases hc
  | p x o => cases hc
  | f0 => cases hc
  | f g a b => cases hc
  | n0 => cases hc
  | n t v => cases hc
  | g l => cases hc
  | u l => cases hc
  | m0 => cases hc
  | m x => cases hc
  | sy x z l => cases hc
theorem Tp.texts {ν : Nat → Int} {ρ : Pl} : ∀ {ks : List ByteArray} {us : List Value}, VRs ν ρ (ks.map fun k => V.s (Tp.toZ k)) us → us = ks.map Value.string
  | [], [], _ => rfl
  | [], _ :: _, h => by simp [VRs] at h
  | _ :: _, [], h => by simp [VRs] at h
  | k :: ks, u :: us, h => by
    rw [List.map_cons] at h
    simp only [VRs] at h
    obtain ⟨u', us', he, h0, h2⟩ := h
    obtain ⟨rfl, rfl⟩ := List.cons.inj he
    simp only [VR] at h0
    obtain ⟨s, rfl, h1⟩ := h0
    have e : s = k := Go.WideShapes.bytes_inj (Tp.SR_toZ h1)
    rw [e, Tp.texts h2]; rfl
theorem ev_mo : Tryz.prog.follows .mixedOrders = true := by kernel_rfl
/-- structs that may not be compared cell by cell -/
def Tp.bad : List Nat := [659, 660, 667, 668]
theorem ev_fo : flatOkX Tryz.prog Tp.bad = true := by kernel_rfl
theorem ev_st : Nat.ble Tryz.prog.types.size 100000 = true := by kernel_rfl
theorem ev_sf : Nat.ble Tryz.prog.funcs.size 100000 = true := by kernel_rfl
theorem ev_tt : TTok Tryz.prog (ttX Tryz.prog Tp.bad) := ttX_ok (by have := Nat.le_of_ble_eq_true ev_st; omega) ev_fo
noncomputable def Tp.outS (r : R1) : Option (List V) := R1.rec (fun _ => none) (fun v h => cellsOf h 1 v) r
set_option maxRecDepth 1000000 in
theorem Tp.keys_ev : Tp.outS (Ev.call (enX Tryz.prog (ttX Tryz.prog Tp.bad) [] [] noOv [4]) 100000 492 [] (H0 [(4, Tp.asc)])) = some (Tp.keysZ.map V.s) := by kernel_rfl
/-- The table of blanks stands as it was laid. -/
def Tp.Asc (w : World) : Prop := Listed (fun _ => 0) (pl0 w [4]) w (4, Tp.asc)
theorem keys_is (w : World) (hl : Tp.Asc w) :
    Calls Tryz.prog 492 #[] w fun e w' => ∃ b o c, e = .returned (.slice (some ⟨b, o, none⟩) Tp.keys.length c) ∧ Rows w' w'.heap.size 1 (some ⟨b, o, none⟩) (Tp.keys.map fun s => [Value.string s]) ∧ Below w.heap.size w w' := by
  cases hr : Ev.call (enX Tryz.prog (ttX Tryz.prog Tp.bad) [] [] noOv [4]) 100000 492 [] (H0 [(4, Tp.asc)]) with
  | bad n => have h := Tp.keys_ev; rw [hr] at h; cases h
  | ok v h' =>
    have hc : cellsOf h' 1 v = some (Tp.keysZ.map V.s) := by have h := Tp.keys_ev; rw [hr] at h; exact h
    refine (evalx_calls (P := Tryz.prog) (ν := fun _ => 0) (w := w) ev_tt ev_sf ev_mo (path := []) (norm := []) (by intro c hc; cases hc) (by intro c hc; cases hc) (l := [(4, Tp.asc)]) (by intro p hp; obtain rfl := List.mem_singleton.1 hp; exact ⟨by decide, hl⟩) noOvX_ok hr (args := []) (by simp [VRs])).mono ?_
    rintro e w' ⟨u, rfl, ρ', R, hv⟩
    obtain ⟨b, o, n, c, us, rfl, hlen, _, hb, hr2, hcell⟩ := Tp.sl_cells R hv hc (by rw [Tp.keysZ_eq]; exact List.ne_nil_of_length_pos (by simp; decide)) (by decide)
    rw [Tp.keysZ_eq, List.map_map] at hr2
    obtain rfl := Tp.texts hr2
    have hn : n = Tp.keys.length := by rw [Tp.keysZ_eq] at hlen; simpa using hlen.symm
    subst hn
    refine ⟨b, o, c, rfl, fun _ => ⟨b, o, rfl, hb, fun i r hi j v hj => ?_⟩, R.below⟩
    rw [List.getElem?_map] at hi
    cases hk : Tp.keys[i]? with
    | none => rw [hk] at hi; cases hi
    | some k =>
      rw [hk] at hi
      obtain rfl := Option.some.inj hi
      match j, hj with
      | 0, hj => obtain rfl := Option.some.inj hj; simpa using hcell i _ (by rw [List.getElem?_map, hk]; rfl)
end Go.Proofs.YtoinghomkcjkcaaGreatDoor
