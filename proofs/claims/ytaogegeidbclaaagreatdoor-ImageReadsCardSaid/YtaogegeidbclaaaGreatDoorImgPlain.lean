/- Images in plain Lean: the same images have the same bytes; small ones have few; bytes are bytes. -/
import Derived.Test.YtaogegeidbclaaaGreatDoorImgRdH
import Derived.Laws.StructEq
namespace Go.Proofs.YtaogegeidbclaaaGreatDoor
open Go.RowKit

theorem txt_eq {x y : ByteArray} (h : (x.toList == y.toList) = true) : x = y := by
  have h1 := eq_of_beq h
  rw [ByteArray.toList_eq, ByteArray.toList_eq] at h1
  obtain ⟨a⟩ := x
  obtain ⟨b⟩ := y
  have h2 : a = b := Array.toList_inj.1 h1
  rw [h2]
theorem eqAll_map {α β : Type} {f : α → α → Bool} {g : α → β} (hf : ∀ x y, f x y = true → g x = g y) : ∀ {xs ys : List α}, eqAll f xs ys = true → xs.map g = ys.map g
  | [], [], _ => rfl
  | x :: xs, y :: ys, h => by
    simp only [eqAll, Bool.and_eq_true] at h
    simp only [List.map_cons, hf x y h.1, eqAll_map hf h.2]
  | [], _ :: _, h => by simp [eqAll] at h
  | _ :: _, [], h => by simp [eqAll] at h
theorem Pc.list_eq {α : Type} {f : α → α → Bool} {g : α → Pc} (hf : ∀ x y, f x y = true → g x = g y) {xs ys : List α} (h : eqAll f xs ys = true) : Pc.list g xs = Pc.list g ys := by
  unfold Pc.list; rw [eqAll_map hf h, eqAll_len_of h]
theorem Int.eqb_eq {x y : Int} (h : Int.eqb x y = true) : x = y := by simpa [Int.eqb] using h
theorem Pc.num_eq (x y : Int) (h : Int.eqb x y = true) : Pc.num x = Pc.num y := by rw [Int.eqb_eq h]
theorem Pc.text_eq (x y : ByteArray) (h : Txt.eqb x y = true) : Pc.text x = Pc.text y := by rw [txt_eq h]
theorem Pc.fc_eq (x y : Fc) (h : Fc.eqb x y = true) : Pc.fc x = Pc.fc y := Pc.list_eq Pc.text_eq h
theorem Pc.tab_eq (x y : Tab) (h : Tab.eqb x y = true) : Pc.tab x = Pc.tab y := by
  simp only [Tab.eqb, Bool.and_eq_true, decide_eq_true_eq] at h
  unfold Pc.tab Pc.ints; rw [h.1, Pc.list_eq Pc.num_eq h.2]
theorem Pc.op_eqb (x y : Opr) (h : Opr.eqb x y = true) : Pc.op x = Pc.op y := by
  simp only [Opr.eqb, Bool.and_eq_true, decide_eq_true_eq] at h
  unfold Pc.op; rw [h.1.1, h.1.2, h.2]
theorem Pc.lnk_eqb (x y : Lnk) (h : Lnk.eqb x y = true) : Pc.lnk x = Pc.lnk y := by
  simp only [Lnk.eqb, Bool.and_eq_true, decide_eq_true_eq] at h
  unfold Pc.lnk; rw [h.1.1, h.1.2, h.2]
theorem Pc.desc_eqb (x y : Desc) (h : Desc.eqb x y = true) : Pc.desc x = Pc.desc y := by
  simp only [Desc.eqb, Bool.and_eq_true, decide_eq_true_eq] at h
  obtain ⟨⟨⟨⟨⟨h1, h2⟩, h3⟩, h4⟩, h5⟩, h6⟩ := h
  unfold Pc.desc Pc.ints Pc.texts
  rw [h1, txt_eq h2, Pc.list_eq Pc.num_eq h3, Pc.list_eq Pc.num_eq h4, Pc.list_eq Pc.text_eq h5, Pc.list_eq Pc.tab_eq h6]
theorem Pc.cod_eqb (x y : Cod) (h : Cod.eqb x y = true) : Pc.cod x = Pc.cod y := by
  simp only [Cod.eqb, Bool.and_eq_true, decide_eq_true_eq] at h
  obtain ⟨⟨⟨⟨⟨h1, h2⟩, h3⟩, h4⟩, h5⟩, h6⟩ := h
  unfold Pc.cod
  rw [h1, txt_eq h2, txt_eq h3, h4, h5, Pc.list_eq Pc.op_eqb h6]
theorem Pc.img_eqb {x y : Img} (h : Img.eqb x y = true) : Pc.img x = Pc.img y := by
  simp only [Img.eqb, Img.eqN, Img.eqT, Img.eqL, Bool.and_eq_true, decide_eq_true_eq] at h
  obtain ⟨⟨⟨⟨⟨⟨h1, ⟨⟨h4, h5⟩, h6⟩, h7⟩, ⟨h8, h9⟩, h10⟩, h2⟩, h3⟩, h11⟩, h12⟩ := h
  unfold Pc.img Pc.ints
  rw [Pc.list_eq Pc.fc_eq h1, Pc.list_eq Pc.desc_eqb h2, Pc.list_eq Pc.cod_eqb h3, Pc.list_eq Pc.num_eq h4, txt_eq h5, Pc.list_eq Pc.num_eq h6, Pc.list_eq Pc.num_eq h7, Pc.list_eq Pc.lnk_eqb h8, Pc.list_eq Pc.lnk_eqb h9, Pc.list_eq Pc.op_eqb h10, h11, h12]
/-! ### How many. -/
theorem Pc.all_le {α : Type} (f : α → Pc) (M : Nat) : ∀ (l : List α), (∀ x ∈ l, (f x).b.length ≤ M) → (Pc.all (l.map f)).b.length ≤ l.length * M
  | [], _ => by simp [Pc.all, Pc.none]
  | x :: l, h => by
    have h1 := h x (by simp)
    have h2 := Pc.all_le f M l (fun y hy => h y (by simp [hy]))
    simp only [List.map_cons, Pc.all, List.length_cons, Pc.len]
    rw [Nat.succ_mul]; omega
theorem Pc.list_le {α : Type} (f : α → Pc) (M : Nat) (l : List α) (h : ∀ x ∈ l, (f x).b.length ≤ M) (hl : l.length ≤ 10000) : (Pc.list f l).b.length ≤ 4 + 10000 * M := by
  have h1 := Pc.all_le f M l h
  have h2 : l.length * M ≤ 10000 * M := Nat.mul_le_mul_right M hl
  have h3 : (Pc.many (l.length : Int)).b.length = 4 := rfl
  rw [Pc.list, Pc.len]; omega
theorem Pc.text_le (s : ByteArray) (h : s.size ≤ 10000) : (Pc.text s).b.length ≤ 10004 := by
  have h3 : (Pc.many (s.size : Int)).b.length = 4 := rfl
  rw [Pc.text, Pc.len, h3, Wt.chars_len]; omega
theorem Pc.ints_le (l : List Int) (h : l.length ≤ 10000) : (Pc.ints l).b.length ≤ 40004 := Pc.list_le Pc.num 4 l (fun _ _ => Nat.le_refl _) h
theorem Pc.texts_le (l : List ByteArray) (h : Txts l) : (Pc.texts l).b.length ≤ 100040004 := Pc.list_le Pc.text 10004 l (fun s hs => Pc.text_le s (h.2 s hs)) h.1
theorem Pc.op_len (x : Opr) : (Pc.op x).b.length = 12 := rfl
theorem Pc.lnk_len (x : Lnk) : (Pc.lnk x).b.length = 12 := rfl
theorem Pc.tab_le (x : Tab) (h : x.l.length ≤ 10000) : (Pc.tab x).b.length ≤ 40008 := by
  have := Pc.ints_le x.l h
  rw [Pc.tab, Pc.len, Pc.num_len]; omega
theorem Pc.desc_le (x : Desc) (h : x.Small) : (Pc.desc x).b.length ≤ 600000000 := by
  obtain ⟨h1, h2, h3, h4, h5, h6⟩ := h
  have a1 := Pc.text_le x.fields h1
  have a2 := Pc.ints_le x.init h2
  have a3 := Pc.ints_le x.vtab h3
  have a4 := Pc.texts_le x.sigs h4
  have a5 := Pc.list_le Pc.tab 40008 x.tabs (fun t ht => Pc.tab_le t (h6 t ht)) h5
  simp only [Pc.desc, Pc.len, Pc.num_len]; omega
theorem Pc.cod_le (x : Cod) (h : x.Small) : (Pc.cod x).b.length ≤ 200000 := by
  obtain ⟨h1, h2, h3⟩ := h
  have a1 := Pc.text_le x.params h1
  have a2 := Pc.text_le x.locals h2
  have a3 := Pc.list_le Pc.op 12 x.ops (fun _ _ => Nat.le_refl _) h3
  have a4 : (Pc.flag x.ret).b.length = 4 := rfl
  simp only [Pc.cod, Pc.len, Pc.num_len, a4]; omega
theorem Img.Small.len {x : Img} (h : x.Small) : (Pc.img x).b.length ≤ 100000000000000 := by
  have a0 := Pc.text_le Pc.mark (by decide)
  have a1 := Pc.list_le Pc.fc 100040004 x.faces (fun f hf => Pc.texts_le f.l (h.faces.2 f hf)) h.faces.1
  have a2 := Pc.list_le Pc.desc 600000000 x.classes (fun d hd => Pc.desc_le d (h.classes.2 d hd)) h.classes.1
  have a3 := Pc.list_le Pc.cod 200000 x.codes (fun d hd => Pc.cod_le d (h.codes.2 d hd)) h.codes.1
  have a4 := Pc.ints_le x.insts h.insts
  have a5 := Pc.text_le x.globals h.globals
  have a6 := Pc.ints_le x.init h.init
  have a7 := Pc.ints_le x.blocks h.blocks
  have a8 := Pc.list_le Pc.lnk 12 x.ins (fun _ _ => Nat.le_refl _) h.ins
  have a9 := Pc.list_le Pc.lnk 12 x.outs (fun _ _ => Nat.le_refl _) h.outs
  have a10 := Pc.list_le Pc.op 12 x.jobs (fun _ _ => Nat.le_refl _) h.jobs
  have a11 : (Pc.nums [x.d, x.w]).b.length = 8 := rfl
  simp only [Pc.img, Pc.len, a11]; omega
/-! ### Bytes are bytes. -/
def Byt (p : Pc) : Prop := ∀ y ∈ p.b, 0 ≤ y ∧ y < 256
theorem Byt.app {p q : Pc} (h : Byt p) (k : Byt q) : Byt (p ++ q) := fun y hy => by
  rcases List.mem_append.1 (show y ∈ p.b ++ q.b from hy) with h1 | h1
  · exact h y h1
  · exact k y h1
theorem Byt.be (x : Int) : ∀ y ∈ Wt.be x, 0 ≤ y ∧ y < 256 := fun y hy => by
  simp only [Wt.be, List.mem_cons, List.not_mem_nil, or_false] at hy
  rcases hy with rfl | rfl | rfl | rfl <;> omega
theorem Byt.num (x : Int) : Byt (Pc.num x) := Byt.be x
theorem Byt.many (x : Int) : Byt (Pc.many x) := Byt.be x
theorem Byt.nums (l : List Int) : Byt (Pc.nums l) := fun y hy => by
  obtain ⟨x, _, h⟩ := List.mem_flatMap.1 (show y ∈ l.flatMap Wt.be from hy)
  exact Byt.be x y h
theorem Byt.text (s : ByteArray) : Byt (Pc.text s) := (Byt.many _).app fun y hy => by
  obtain ⟨b, _, rfl⟩ := List.mem_map.1 (show y ∈ s.data.toList.map fun b => (b.toNat : Int) from hy)
  have := b.toNat_lt; omega
theorem Byt.all {α : Type} {f : α → Pc} (h : ∀ x, Byt (f x)) : ∀ l : List α, Byt (Pc.all (l.map f))
  | [] => fun y hy => by simp [Pc.all, Pc.none] at hy
  | x :: l => (h x).app (Byt.all h l)
theorem Byt.list {α : Type} {f : α → Pc} (h : ∀ x, Byt (f x)) (l : List α) : Byt (Pc.list f l) := (Byt.many _).app (Byt.all h l)
theorem Byt.flag (b : Bool) : Byt (Pc.flag b) := Byt.num _
theorem Byt.fc (x : Fc) : Byt (Pc.fc x) := Byt.list Byt.text _
theorem Byt.tab (x : Tab) : Byt (Pc.tab x) := (Byt.num _).app (Byt.list Byt.num _)
theorem Byt.op (x : Opr) : Byt (Pc.op x) := Byt.nums _
theorem Byt.lnk (x : Lnk) : Byt (Pc.lnk x) := (Byt.nums _).app (Byt.flag _)
theorem Byt.desc (x : Desc) : Byt (Pc.desc x) := (((((Byt.num _).app (Byt.text _)).app (Byt.list Byt.num _)).app (Byt.list Byt.num _)).app (Byt.list Byt.text _)).app (Byt.list Byt.tab _)
theorem Byt.cod (x : Cod) : Byt (Pc.cod x) := (((((Byt.num _).app (Byt.text _)).app (Byt.text _)).app (Byt.flag _)).app (Byt.num _)).app (Byt.list Byt.op _)
theorem Byt.img (x : Img) : Byt (Pc.img x) := (((((((((((Byt.text _).app (Byt.list Byt.fc _)).app (Byt.list Byt.desc _)).app (Byt.list Byt.cod _)).app (Byt.list Byt.num _)).app (Byt.text _)).app (Byt.list Byt.num _)).app (Byt.list Byt.num _)).app (Byt.list Byt.lnk _)).app (Byt.list Byt.lnk _)).app (Byt.list Byt.op _)).app (Byt.nums _)
theorem str_inj {xs ys : List Int} (hx : ∀ y ∈ xs, 0 ≤ y ∧ y < 256) (hy : ∀ y ∈ ys, 0 ≤ y ∧ y < 256) (h : ((strOfNums xs).toList == (strOfNums ys).toList) = true) : xs = ys := by
  have h1 := txt_eq h
  have back : ∀ l : List Int, (∀ y ∈ l, 0 ≤ y ∧ y < 256) → Wt.chars (strOfNums l) = l := fun l hl => by
    unfold strOfNums Wt.chars
    rw [List.map_map]
    have : ∀ y ∈ l, ((fun b : UInt8 => (b.toNat : Int)) ∘ fun n : Int => UInt8.ofNat n.toNat) y = y := fun y hy => by
      have := hl y hy
      simp only [Function.comp, UInt8.toNat_ofNat']
      have h2 : y.toNat % 2 ^ 8 = y.toNat := Nat.mod_eq_of_lt (by omega)
      rw [h2]; omega
    exact (List.map_congr_left this).trans (List.map_id' l)
  rw [← back xs hx, ← back ys hy, h1]
end Go.Proofs.YtaogegeidbclaaaGreatDoor
