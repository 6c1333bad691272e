/- Lists that a reader makes: where they lie; how far it is. -/
import Derived.Test.YtaogegeidbclaaaGreatDoorImgRdC
namespace Go.Proofs.YtaogegeidbclaaaGreatDoor
open Go.RowKit

/-- The world, some blocks of it wiped. -/
def wipe (w : World) (P : Nat → Bool) : World := { w with heap := w.heap.mapIdx fun i o => if P i then .cells #[] 0 (0, 0) else o }
theorem wipe_get (w : World) (P : Nat → Bool) (i : Nat) : (wipe w P).heap[i]? = (w.heap[i]?).map fun o => if P i then .cells #[] 0 (0, 0) else o := by
  simp [wipe, Array.getElem?_mapIdx]
theorem wipe_size (w : World) (P : Nat → Bool) : (wipe w P).heap.size = w.heap.size := by simp [wipe]
theorem wipe_cell {w : World} {P : Nat → Bool} {a : Addr} {v : Value} (h : (wipe w P).cell? a = some v) : P a.block = false ∧ a.block < w.heap.size ∧ w.cell? a = some v := by
  unfold World.cell? at h
  rw [wipe_get] at h
  cases hb : w.heap[a.block]? with
  | none => rw [hb] at h; simp at h
  | some o =>
    have hlt : a.block < w.heap.size := (Array.getElem?_eq_some_iff.1 hb).1
    rw [hb, Option.map_some] at h
    cases hp : P a.block
    · rw [hp] at h
      refine ⟨rfl, hlt, ?_⟩
      unfold World.cell?; rw [hb]; simpa using h
    · rw [hp] at h; simp at h
theorem wipe_cell_of {w : World} {P : Nat → Bool} {a : Addr} (h : P a.block = false) : (wipe w P).cell? a = w.cell? a := by
  unfold World.cell?
  rw [wipe_get]
  cases hb : w.heap[a.block]? with
  | none => rfl
  | some o => rw [Option.map_some, h]; rfl
/-- What is known in the one world is known in the other. -/
def Kc (w w' : World) : Prop := ∀ a v, w.cell? a = some v → w'.cell? a = some v
theorem Kc.unwipe (w : World) (P : Nat → Bool) : Kc (wipe w P) w := fun _ _ h => (wipe_cell h).2.2
theorem Kc.wipe {w w' : World} {P Q : Nat → Bool} (h : ∀ i, i < w.heap.size → P i = false → Q i = false ∧ w'.heap[i]? = w.heap[i]?) : Kc (wipe w P) (wipe w' Q) := fun a v ha => by
  obtain ⟨h1, h2, h3⟩ := wipe_cell ha
  obtain ⟨h4, h5⟩ := h a.block h2 h1
  rw [wipe_cell_of h4, World.cell?_of_block h5]; exact h3
section
variable {w w' : World} {B B' : Nat} {A : Option Addr}
theorem Rows.kc {sz : Nat} {rows : List (List Value)} (h : Rows w B sz A rows) (k : Kc w w') (hB : B ≤ B') : Rows w' B' sz A rows := fun hn => by
  obtain ⟨b, off, h1, h2, h3⟩ := h hn
  exact ⟨b, off, h1, by omega, fun i r hr j v hv => k _ _ (h3 i r hr j v hv)⟩
theorem LNums.kc {l : List Int} (h : LNums w B A l) (k : Kc w w') (hB : B ≤ B') : LNums w' B' A l := ⟨h.1, h.2.kc k hB⟩
theorem LTexts.kc {l : List ByteArray} (h : LTexts w B A l) (k : Kc w w') (hB : B ≤ B') : LTexts w' B' A l := ⟨h.1, h.2.kc k hB⟩
theorem LOps.kc {l : List Opr} (h : LOps w B A l) (k : Kc w w') (hB : B ≤ B') : LOps w' B' A l := ⟨h.1, h.2.kc k hB⟩
theorem LLnks.kc {l : List Lnk} (h : LLnks w B A l) (k : Kc w w') (hB : B ≤ B') : LLnks w' B' A l := ⟨h.1, h.2.kc k hB⟩
theorem Fc.At.kc {x : Fc} (h : Fc.At w B x) (k : Kc w w') (hB : B ≤ B') : Fc.At w' B' x := LTexts.kc h k hB
theorem Tab.At.kc {x : Tab} (h : Tab.At w B x) (k : Kc w w') (hB : B ≤ B') : Tab.At w' B' x := LNums.kc h k hB
theorem LTabs.kc {l : List Tab} (h : LTabs w B A l) (k : Kc w w') (hB : B ≤ B') : LTabs w' B' A l := ⟨h.1, h.2.1.kc k hB, fun x hx => (h.2.2 x hx).kc k hB⟩
theorem LFcs.kc {l : List Fc} (h : LFcs w B A l) (k : Kc w w') (hB : B ≤ B') : LFcs w' B' A l := ⟨h.1, h.2.1.kc k hB, fun x hx => (h.2.2 x hx).kc k hB⟩
theorem Desc.At.kc {x : Desc} (h : Desc.At w B x) (k : Kc w w') (hB : B ≤ B') : Desc.At w' B' x := ⟨h.1.kc k hB, h.2.1.kc k hB, h.2.2.1.kc k hB, h.2.2.2.kc k hB⟩
theorem Cod.At.kc {x : Cod} (h : Cod.At w B x) (k : Kc w w') (hB : B ≤ B') : Cod.At w' B' x := LOps.kc h k hB
theorem LDescs.kc {l : List Desc} (h : LDescs w B A l) (k : Kc w w') (hB : B ≤ B') : LDescs w' B' A l := ⟨h.1, h.2.1.kc k hB, fun x hx => (h.2.2 x hx).kc k hB⟩
theorem LCods.kc {l : List Cod} (h : LCods w B A l) (k : Kc w w') (hB : B ≤ B') : LCods w' B' A l := ⟨h.1, h.2.1.kc k hB, fun x hx => (h.2.2 x hx).kc k hB⟩
theorem Img.At.kc {x : Img} (h : Img.At w B x) (k : Kc w w') (hB : B ≤ B') : Img.At w' B' x :=
  ⟨h.faces.kc k hB, h.classes.kc k hB, h.codes.kc k hB, h.insts.kc k hB, h.init.kc k hB, h.blocks.kc k hB, h.ins.kc k hB, h.outs.kc k hB, h.jobs.kc k hB⟩
end
/-- What was laid at block n and behind. -/
def fresh (w : World) (n : Nat) : World := wipe w fun i => decide (i < n)
/-- .. but for a row. -/
def inrow (w : World) (n : Nat) (g : Option Nat) : World := wipe w fun i => decide (i < n) || decide (some i = g)
theorem Kc.fresh {p n m : Nat} {a b : World} (h : Keep p a b) (hp : p < n) (hm : n ≤ m) : Kc (fresh a m) (fresh b n) := Kc.wipe fun i hi h1 => by
  simp only [decide_eq_false_iff_not] at h1 ⊢
  exact ⟨by omega, h.block i hi (by omega)⟩
theorem Kc.row_keep {p n : Nat} {a b : World} {g : Option Nat} (h : Keep p a b) (hp : p < n) : Kc (inrow a n g) (inrow b n g) := Kc.wipe fun i hi h1 => by
  refine ⟨h1, h.block i hi ?_⟩
  simp only [Bool.or_eq_false_iff, decide_eq_false_iff_not] at h1; omega
theorem Kc.row_new {n m : Nat} {b : World} {g : Option Nat} (hm : n ≤ m) (hg : ∀ i, g = some i → i < m) : Kc (Go.Proofs.YtaogegeidbclaaaGreatDoor.fresh b m) (inrow b n g) := Kc.wipe fun i hi h1 => by
  simp only [decide_eq_false_iff_not, Bool.or_eq_false_iff] at h1 ⊢
  exact ⟨⟨by omega, fun e => h1 (hg i e.symm)⟩, trivial⟩
theorem Kc.row_grown {n : Nat} {a b : World} {g g' : Option Nat} (h : a.grownBy b g) (h' : g' = g ∨ g' = some a.heap.size) : Kc (inrow a n g) (inrow b n g') := Kc.wipe fun i hi h1 => by
  simp only [Bool.or_eq_false_iff, decide_eq_false_iff_not] at h1 ⊢
  refine ⟨⟨h1.1, ?_⟩, h.block i hi h1.2⟩
  rcases h' with rfl | rfl
  · exact h1.2
  · intro e; cases e; omega
theorem Kc.row_out {n : Nat} {a : World} {g : Option Nat} : Kc (inrow a n g) (Go.Proofs.YtaogegeidbclaaaGreatDoor.fresh a n) := Kc.wipe fun i hi h1 => by
  simp only [Bool.or_eq_false_iff, decide_eq_false_iff_not] at h1 ⊢
  exact ⟨h1.1, trivial⟩
theorem fresh_own {w : World} {n e s k : Nat} {v : Value} {xs : List Value} (h : w.ownsRow n e s v k xs) : (fresh w n).ownsRow n e s v k xs := by
  rcases h with ⟨h1, h2 | ⟨g, cap, cur, p1, p2, p3, p4⟩⟩
  · exact ⟨h1, Or.inl h2⟩
  · refine ⟨h1, Or.inr ⟨g, cap, cur, p1, p2, ?_, p4⟩⟩
    unfold fresh
    rw [wipe_get, p3]
    simp; omega
theorem fresh_rows {w : World} {n e sz c : Nat} {A : Option Addr} {rows : List (List Value)} (hs : ∀ r ∈ rows, r.length = sz) (h : w.ownsRow n e sz (.slice A rows.length c) rows.length rows.flatten) : Rows (fresh w n) w.heap.size sz A rows := by
  have := Rows.of_own hs (fresh_own h)
  rwa [show (fresh w n).heap.size = w.heap.size from wipe_size _ _] at this
/-! ### How far it is. -/
theorem eqAll_snoc {α : Type} {R : α → α → Bool} : ∀ {l m : List α} {v u : α}, eqAll R l m = true → R v u = true → eqAll R (l ++ [v]) (m ++ [u]) = true
  | [], [], _, _, _, h => by simp [eqAll, h]
  | x :: xs, y :: ys, v, u, h, k => by
    simp only [eqAll, Bool.and_eq_true] at h
    simp only [List.cons_append, eqAll, h.1, Bool.true_and]
    exact eqAll_snoc h.2 k
  | [], _ :: _, _, _, h, _ => by simp [eqAll] at h
  | _ :: _, [], _, _, h, _ => by simp [eqAll] at h
def Track {α : Type} (f : α → Pc) (R : α → α → Bool) (s : St) (n k : Nat) (l : List α) (sk : St) : Prop :=
  ∀ us t, s.x = false → s.b = (Pc.list f us).b ++ t → (Pc.list f us).x = false → us.length = n ∧ eqAll R l (us.take k) = true ∧ sk = ⟨(Pc.all ((us.drop k).map f)).b ++ t, false⟩ ∧ (Pc.all ((us.drop k).map f)).x = false
section
variable {α : Type} {f : α → Pc} {R : α → α → Bool} {s s1 sk s' : St} {n k : Nat} {l : List α}
theorem Track.start (h : Got (fun k : Nat => Pc.many k) (fun k => n = k) s s1) : Track f R s n 0 [] s1 := fun us t h1 h2 h3 => by
  have h4 : (Pc.many (us.length : Int)).x = false ∧ (Pc.all (us.map f)).x = false := by simpa [Pc.list, Pc.app_def] using h3
  obtain ⟨rfl, rfl⟩ := h us.length ((Pc.all (us.map f)).b ++ t) h1 (by rw [h2]; simp [Pc.list, Pc.app_def, List.append_assoc]) h4.1
  exact ⟨rfl, by simp [eqAll], by simp, by simpa using h4.2⟩
theorem Track.next {v : α} (h : Track f R s n k l sk) (hk : k < n) (g : Got f (fun u => R v u = true) sk s') : Track f R s n (k + 1) (l ++ [v]) s' := fun us t h1 h2 h3 => by
  obtain ⟨e1, e2, rfl, e4⟩ := h us t h1 h2 h3
  obtain ⟨u, hu⟩ : ∃ u, us[k]? = some u := ⟨_, List.getElem?_eq_getElem (by omega)⟩
  have hd : us.drop k = u :: us.drop (k + 1) := by
    obtain ⟨q1, q2⟩ := List.getElem?_eq_some_iff.1 hu
    rw [← q2, List.getElem_cons_drop q1]
  rw [hd] at g e4
  have e5 : (f u).x = false ∧ (Pc.all ((us.drop (k + 1)).map f)).x = false := by simpa [Pc.all, Pc.app_def] using e4
  obtain ⟨r, rfl⟩ := g u ((Pc.all ((us.drop (k + 1)).map f)).b ++ t) rfl (by simp [Pc.all, Pc.app_def, List.append_assoc]) e5.1
  exact ⟨e1, by rw [List.take_add_one, hu, Option.toList_some]; exact eqAll_snoc e2 r, rfl, e5.2⟩
theorem Track.no {v : α} {Q : List α → Prop} (h : Track f R s n k l sk) (hk : k < n) (g : Got f (fun u => R v u = true) sk s') (hb : s'.x = true) : Got (fun us => Pc.list f us) Q s s' := fun us t h1 h2 h3 => by
  obtain ⟨_, _, e, _⟩ := (h.next hk g) us t h1 h2 h3
  rw [e] at hb; cases hb
theorem Track.done (h : Track f R s n k l sk) (hk : n ≤ k) : Got (fun us => Pc.list f us) (fun us => eqAll R l us = true) s sk := fun us t h1 h2 h3 => by
  obtain ⟨e1, e2, e3, _⟩ := h us t h1 h2 h3
  rw [List.take_of_length_le (by omega)] at e2
  exact ⟨e2, by rw [e3, List.drop_of_length_le (by omega)]; simp [Pc.all, Pc.none]⟩
end
/-- What reading one comes to. -/
def Eld {α : Type} (f : α → Pc) (R : α → α → Bool) (S : α → Prop) (At : World → Nat → α → Prop) (val : α → Value) (T : TypeId) (p : Nat) (s : St) (w : World) (e : Ending) (w' : World) : Prop :=
  ∃ (v : α) (s' : St), e = .returned (val v) ∧ S v ∧ At (fresh w' w.heap.size) w'.heap.size v ∧ Rd.Is w' T p s' ∧ Keep p w w' ∧ Got f (fun u => R v u = true) s s'
/-- What reading a list comes to. -/
def Alld {α : Type} (f : α → Pc) (R : α → α → Bool) (S : α → Prop) (L : World → Nat → Option Addr → List α → Prop) (T : TypeId) (p : Nat) (s : St) (w : World) (e : Ending) (w' : World) : Prop :=
  ∃ (A : Option Addr) (c : Nat) (l : List α) (s' : St), e = .returned (.slice A l.length c) ∧ l.length ≤ 10000 ∧ (∀ x ∈ l, S x) ∧ L (fresh w' w.heap.size) w'.heap.size A l ∧ Rd.Is w' T p s' ∧ Keep p w w' ∧ Got (fun us => Pc.list f us) (fun us => eqAll R l us = true) s s'
def rowb (A : Option Addr) : Option Nat := A.map (·.block)
theorem rowb_own (A : Option Addr) (n c : Nat) : (Value.slice A n c).ownBlock = rowb A := by cases A <;> rfl
theorem Rd.Is.low {w w' : World} {T : TypeId} {p : Nat} {s : St} (h : Rd.Is w T p s) (hb : Below (p + 1) w w') : Rd.Is w' T p s := by
  obtain ⟨A, c, h1, h2, h3, h4⟩ := h
  exact ⟨A, c, h1.below hb (Nat.lt_succ_self p), h2, h3.below (hb.mono (Nat.le_succ p)), h4⟩
/-- How a list lies while it is read. -/
def ListInv {α : Type} (f : α → Pc) (R : α → α → Bool) (S : α → Prop) (At : World → Nat → α → Prop) (cells : α → List Value) (e : TypeId) (sz : Nat) (T : TypeId) (p : Nat) (s : St) (w : World) (n k : Nat) (A : Option Addr) (c : Nat) (l : List α) (wr : World) : Prop :=
  l.length = k ∧ wr.ownsRow w.heap.size e sz (.slice A l.length c) l.length ((l.map cells).flatten) ∧ (∀ x ∈ l, S x ∧ At (inrow wr w.heap.size (rowb A)) wr.heap.size x) ∧ Keep p w wr ∧ ∃ sk, Rd.Is wr T p sk ∧ Track f R s n k l sk
section
variable {α : Type} {f : α → Pc} {R : α → α → Bool} {S : α → Prop} {At : World → Nat → α → Prop} {cells : α → List Value} {e sz : Nat} {T : TypeId} {p : Nat} {s : St} {w : World} {n k : Nat} {A : Option Addr} {c : Nat} {l : List α} {wr : World}
theorem ListInv.start {s1 : St} (hI : Rd.Is wr T p s1) (hK : Keep p w wr) (h : Got (fun k : Nat => Pc.many k) (fun k => n = k) s s1) : ListInv f R S At cells e sz T p s w n 0 none 0 [] wr :=
  ⟨rfl, ⟨by simp, Or.inl ⟨rfl, rfl⟩⟩, by simp, hK, s1, hI, Track.start h⟩
theorem ListInv.next (hkc : ∀ {w w' : World} {B B' : Nat} {x : α}, At w B x → Kc w w' → B ≤ B' → At w' B' x) {v : α} {s' sk : St} {w2 w3 w9 : World} {v9 : Value}
    (hl : l.length = k) (HO : wr.ownsRow w.heap.size e sz (.slice A l.length c) l.length ((l.map cells).flatten)) (HE : ∀ x ∈ l, S x ∧ At (inrow wr w.heap.size (rowb A)) wr.heap.size x) (HK : Keep p w wr) (HT : Track f R s n k l sk)
    (hp : p < w.heap.size) (hk : k < n) (hS : S v) (hv : At (fresh w2 wr.heap.size) w2.heap.size v) (hI : Rd.Is w2 T p s') (k1 : Keep p wr w2) (hG : Got f (fun u => R v u = true) sk s') (k2 : Below w2.heap.size w2 w3)
    (ho : w9.ownsRow w.heap.size e sz v9 (l.length + 1) ((l.map cells).flatten ++ cells v)) (hg : w3.grownBy w9 (Value.slice A l.length c).ownBlock) (hob : v9.ownBlock = (Value.slice A l.length c).ownBlock ∨ v9.ownBlock = some w3.heap.size) :
    ∃ A2 c2, v9 = .slice A2 (l.length + 1) c2 ∧ ListInv f R S At cells e sz T p s w n (k + 1) A2 c2 (l ++ [v]) w9 := by
  obtain ⟨A2, c2, rfl⟩ := own_slice ho
  rw [rowb_own, rowb_own] at hob
  rw [rowb_own] at hg
  have hgl : ∀ i, rowb A = some i → w.heap.size ≤ i ∧ i < wr.heap.size := fun i hi => HO.lt i (by rw [rowb_own]; exact hi)
  have K3 : Keep p w2 w3 := Keep.of_below k2
  have KW : Keep p w w3 := (HK.trans k1).trans K3
  have Kold : Kc (inrow wr w.heap.size (rowb A)) (inrow w9 w.heap.size (rowb A2)) := fun a u h => Kc.row_grown hg hob a u (Kc.row_keep K3 hp a u (Kc.row_keep k1 hp a u h))
  have Knew : Kc (fresh w2 wr.heap.size) (inrow w9 w.heap.size (rowb A2)) := fun a u h => Kc.row_grown hg hob a u (Kc.row_keep K3 hp a u (Kc.row_new HK.size (fun i hi => (hgl i hi).2) a u h))
  have sz9 : w2.heap.size ≤ w9.heap.size := Nat.le_trans k2.size hg.size
  refine ⟨A2, c2, rfl, by simp [hl], by simpa using ho, fun x hx => ?_, KW.grown hg (fun g hg' => (hgl g hg').1), s', hI.low ?_, HT.next hk hG⟩
  · rcases List.mem_append.1 hx with h | h
    · exact ⟨(HE x h).1, hkc (HE x h).2 Kold (Nat.le_trans k1.size sz9)⟩
    · obtain rfl : x = v := by simpa using h
      exact ⟨hS, hkc hv Knew sz9⟩
  · have h2 := hI.lt
    have h3 : Below (p + 1) w2 w3 := k2.mono (by omega)
    exact h3.grown hg (by have := k2.size; omega) (fun q hq => by have := (hgl q hq).1; omega)
end
end Go.Proofs.YtaogegeidbclaaaGreatDoor
