/- The document's reader: what it holds. -/
import Derived.Test.YtaogegeidbclaaaGreatDoorImgBackA
import Derived.Laws.BitsAllLaws
namespace Go.Proofs.YtaogegeidbclaaaGreatDoor
open Go.RowKit

/-- The document's reader at p: what is left behind its place. -/
def Rd2.Is (w : World) (T : TypeId) (p : Nat) (s : St) : Prop :=
  ∃ (A : Option Addr) (c : Nat) (bs : List Int) (a : Nat), Aid.Has w p [.slice A bs.length c, .int .i64 a, .bool s.x] T ∧ a ≤ bs.length ∧ s.b = bs.drop a ∧ bs.length ≤ c ∧ bs.length ≤ 100000000000000 ∧ Reads w p 1 A bs.length (bs.map (Value.int .u8)) ∧ (∀ y ∈ bs, 0 ≤ y ∧ y < 256)
theorem Rd2.Is.lt {w : World} {T : TypeId} {p : Nat} {s : St} (h : Rd2.Is w T p s) : p < w.heap.size := by obtain ⟨A, c, bs, a, h, _⟩ := h; exact h.lt
theorem Rd2.Is.low {w w' : World} {T : TypeId} {p : Nat} {s : St} (h : Rd2.Is w T p s) (hb : Below (p + 1) w w') : Rd2.Is w' T p s := by
  obtain ⟨A, c, bs, a, h1, h2, h3, h4, h5, h6, h7⟩ := h
  exact ⟨A, c, bs, a, h1.below hb (Nat.lt_succ_self p), h2, h3, h4, h5, h6.below (hb.mono (Nat.le_succ p)), h7⟩
/-- What reading one comes to. -/
def Eld2 {α : Type} (f : α → Pc) (R : α → α → Bool) (S : α → Prop) (At : World → Nat → α → Prop) (val : α → Value) (T : TypeId) (p : Nat) (s : St) (w : World) (e : Ending) (w' : World) : Prop :=
  ∃ (v : α) (s' : St), e = .returned (val v) ∧ S v ∧ At (fresh w' w.heap.size) w'.heap.size v ∧ Rd2.Is w' T p s' ∧ Keep p w w' ∧ Got f (fun u => R v u = true) s s'
/-- What reading a list comes to. -/
def Alld2 {α : Type} (f : α → Pc) (R : α → α → Bool) (S : α → Prop) (L : World → Nat → Option Addr → List α → Prop) (T : TypeId) (p : Nat) (s : St) (w : World) (e : Ending) (w' : World) : Prop :=
  ∃ (A : Option Addr) (c : Nat) (l : List α) (s' : St), e = .returned (.slice A l.length c) ∧ l.length ≤ 10000 ∧ (∀ x ∈ l, S x) ∧ L (fresh w' w.heap.size) w'.heap.size A l ∧ Rd2.Is w' T p s' ∧ Keep p w w' ∧ Got (fun us => Pc.list f us) (fun us => eqAll R l us = true) s s'
/-- How a list lies while it is read. -/
def ListInv2 {α : Type} (f : α → Pc) (R : α → α → Bool) (S : α → Prop) (At : World → Nat → α → Prop) (cells : α → List Value) (e : TypeId) (sz : Nat) (T : TypeId) (p : Nat) (s : St) (w : World) (n k : Nat) (A : Option Addr) (c : Nat) (l : List α) (wr : World) : Prop :=
  l.length = k ∧ wr.ownsRow w.heap.size e sz (.slice A l.length c) l.length ((l.map cells).flatten) ∧ (∀ x ∈ l, S x ∧ At (inrow wr w.heap.size (rowb A)) wr.heap.size x) ∧ Keep p w wr ∧ ∃ sk, Rd2.Is wr T p sk ∧ Track f R s n k l sk
section
variable {α : Type} {f : α → Pc} {R : α → α → Bool} {S : α → Prop} {At : World → Nat → α → Prop} {cells : α → List Value} {e sz : Nat} {T : TypeId} {p : Nat} {s : St} {w : World} {n k : Nat} {A : Option Addr} {c : Nat} {l : List α} {wr : World}
theorem ListInv2.start {s1 : St} (hI : Rd2.Is wr T p s1) (hK : Keep p w wr) (h : Got (fun k : Nat => Pc.many k) (fun k => n = k) s s1) : ListInv2 f R S At cells e sz T p s w n 0 none 0 [] wr :=
  ⟨rfl, ⟨by simp, Or.inl ⟨rfl, rfl⟩⟩, by simp, hK, s1, hI, Track.start h⟩
theorem ListInv2.next (hkc : ∀ {w w' : World} {B B' : Nat} {x : α}, At w B x → Kc w w' → B ≤ B' → At w' B' x) {v : α} {s' sk : St} {w2 w3 w9 : World} {v9 : Value}
    (hl : l.length = k) (HO : wr.ownsRow w.heap.size e sz (.slice A l.length c) l.length ((l.map cells).flatten)) (HE : ∀ x ∈ l, S x ∧ At (inrow wr w.heap.size (rowb A)) wr.heap.size x) (HK : Keep p w wr) (HT : Track f R s n k l sk)
    (hp : p < w.heap.size) (hk : k < n) (hS : S v) (hv : At (fresh w2 wr.heap.size) w2.heap.size v) (hI : Rd2.Is w2 T p s') (k1 : Keep p wr w2) (hG : Got f (fun u => R v u = true) sk s') (k2 : Below w2.heap.size w2 w3)
    (ho : w9.ownsRow w.heap.size e sz v9 (l.length + 1) ((l.map cells).flatten ++ cells v)) (hg : w3.grownBy w9 (Value.slice A l.length c).ownBlock) (hob : v9.ownBlock = (Value.slice A l.length c).ownBlock ∨ v9.ownBlock = some w3.heap.size) :
    ∃ A2 c2, v9 = .slice A2 (l.length + 1) c2 ∧ ListInv2 f R S At cells e sz T p s w n (k + 1) A2 c2 (l ++ [v]) w9 := by
  obtain ⟨A2, c2, rfl⟩ := own_slice ho
  rw [rowb_own, rowb_own] at hob
  rw [rowb_own] at hg
  have hgl : ∀ i, rowb A = some i → w.heap.size ≤ i ∧ i < wr.heap.size := fun i hi => HO.lt i (by rw [rowb_own]; exact hi)
  have K3 : Keep p w2 w3 := Keep.of_below k2
  have KW : Keep p w w3 := (HK.trans k1).trans K3
  have Kold : Kc (inrow wr w.heap.size (rowb A)) (inrow w9 w.heap.size (rowb A2)) := fun a u h => Kc.row_grown hg hob a u (Kc.row_keep K3 hp a u (Kc.row_keep k1 hp a u h))
  have Knew : Kc (fresh w2 wr.heap.size) (inrow w9 w.heap.size (rowb A2)) := fun a u h => Kc.row_grown hg hob a u (Kc.row_keep K3 hp a u (Kc.row_new HK.size (fun i hi => (hgl i hi).2) a u h))
  have sz9 : w2.heap.size ≤ w9.heap.size := Nat.le_trans k2.size hg.size
  refine ⟨A2, c2, rfl, by simp [hl], by simpa using ho, fun x hx => ?_, KW.grown hg (fun g hg' => (hgl g hg').1), s', hI.low ?_, HT.next hk hG⟩
  · rcases List.mem_append.1 hx with h | h
    · exact ⟨(HE x h).1, hkc (HE x h).2 Kold (Nat.le_trans k1.size sz9)⟩
    · obtain rfl : x = v := by simpa using h
      exact ⟨hS, hkc hv Knew sz9⟩
  · have h2 := hI.lt
    have h3 : Below (p + 1) w2 w3 := k2.mono (by omega)
    exact h3.grown hg (by have := k2.size; omega) (fun q hq => by have := (hgl q hq).1; omega)
end
/-- How many there are, if as many bytes are left. -/
def GotM (n : Nat) (s s' : St) : Prop := ∀ (k : Nat) (t : List Int), s.x = false → s.b = (Pc.many k).b ++ t → (Pc.many (k : Int)).x = false → k ≤ t.length → n = k ∧ s' = ⟨t, false⟩
theorem Pc.all_count {α : Type} {f : α → Pc} (hf : ∀ u, 1 ≤ (f u).b.length) : ∀ l : List α, l.length ≤ (Pc.all (l.map f)).b.length
  | [] => Nat.zero_le _
  | x :: l => by
    have h1 := hf x
    have h2 := Pc.all_count hf l
    simp only [List.map_cons, Pc.all, List.length_cons, Pc.len]; omega
theorem Track.startM {α : Type} {f : α → Pc} {R : α → α → Bool} {s s1 : St} {n : Nat} (hf : ∀ u, 1 ≤ (f u).b.length) (h : GotM n s s1) : Track f R s n 0 [] s1 := fun us t h1 h2 h3 => by
  have h4 : (Pc.many (us.length : Int)).x = false ∧ (Pc.all (us.map f)).x = false := by simpa [Pc.list, Pc.app_def] using h3
  obtain ⟨rfl, rfl⟩ := h us.length ((Pc.all (us.map f)).b ++ t) h1 (by rw [h2]; simp [Pc.list, Pc.app_def, List.append_assoc]) h4.1 (by rw [List.length_append]; exact Nat.le_trans (Pc.all_count hf us) (Nat.le_add_right _ _))
  exact ⟨rfl, by simp [eqAll], by simp, by simpa using h4.2⟩
/-- It ended too early: nothing was laid so. -/
theorem Track.ended {α : Type} {f : α → Pc} {R : α → α → Bool} {s sk : St} {n k : Nat} {l : List α} {Q : List α → Prop} (h : Track f R s n k l sk) (hb : sk.x = true) : Got (fun us => Pc.list f us) Q s sk := fun us t h1 h2 h3 => by
  obtain ⟨_, _, e, _⟩ := h us t h1 h2 h3
  rw [e] at hb; cases hb
theorem ListInv2.startM {α : Type} {f : α → Pc} {R : α → α → Bool} {S : α → Prop} {At : World → Nat → α → Prop} {cells : α → List Value} {e sz : Nat} {T : TypeId} {p : Nat} {s : St} {w : World} {n : Nat} {wr : World} {s1 : St} (hf : ∀ u, 1 ≤ (f u).b.length) (hI : Rd2.Is wr T p s1) (hK : Keep p w wr) (h : GotM n s s1) : ListInv2 f R S At cells e sz T p s w n 0 none 0 [] wr :=
  ⟨rfl, ⟨by simp, Or.inl ⟨rfl, rfl⟩⟩, by simp, hK, s1, hI, Track.startM hf h⟩
theorem Rd2.Is.bad {w : World} {T : TypeId} {p : Nat} {s : St} (h : Rd2.Is w T p s) (x : Bool) : Rd2.Is (w.setCell ⟨p, 2, none⟩ (.bool x)) T p ⟨s.b, x⟩ := by
  obtain ⟨A, c, bs, a, h1, h2, h3, h4, h5, h6, h7⟩ := h
  exact ⟨A, c, bs, a, h1.set 2 _, h2, h3, h4, h5, h6.setCell (Nat.le_refl _) _, h7⟩
theorem Rd2.Is.on {w : World} {T : TypeId} {p : Nat} {s : St} {A : Option Addr} {c a : Nat} {bs : List Int} (h1 : Aid.Has w p [.slice A bs.length c, .int .i64 a, .bool s.x] T) (h4 : bs.length ≤ c) (h5 : bs.length ≤ 100000000000000) (h6 : Reads w p 1 A bs.length (bs.map (Value.int .u8))) (h7 : ∀ y ∈ bs, 0 ≤ y ∧ y < 256) (a2 : Nat) (h : a2 ≤ bs.length) :
    Rd2.Is (w.setCell ⟨p, 1, none⟩ (.int .i64 a2)) T p ⟨bs.drop a2, s.x⟩ := ⟨A, c, bs, a2, h1.set 1 _, h, rfl, h4, h5, h6.setCell (Nat.le_refl _) _, h7⟩
theorem Rd2.Is.drewN {w : World} {T : TypeId} {p : Nat} {s : St} (h : Rd2.Is w T p s) (n : Nat) : Rd2.Is (w.drewN n) T p s := h
theorem Keep.drewN {p : Nat} {a b : World} (h : Keep p a b) (n : Nat) : Keep p a (b.drewN n) := ⟨h.os, h.tape, h.output, h.size, h.block⟩
/-- What reading a number comes to. -/
def Numd2 (T : TypeId) (p : Nat) (s : St) (w : World) (e : Ending) (w' : World) : Prop :=
  ∃ (v : Int) (s' : St), e = .returned (.int .i64 v) ∧ -2147483648 ≤ v ∧ v ≤ 2147483647 ∧ Rd2.Is w' T p s' ∧ Keep p w w' ∧ Got Pc.num (fun u => v = u) s s'
theorem Rd.or_u32 (a x : Int) (h0 : 0 ≤ a) (h1 : a < 16777216) (h2 : 0 ≤ x) (h3 : x < 256) : bits BinOp.or IntKind.u32 (a * 256) x = a * 256 + x := by
  obtain ⟨n, rfl⟩ := Int.eq_ofNat_of_zero_le h0
  obtain ⟨m, rfl⟩ := Int.eq_ofNat_of_zero_le h2
  have e : ((n : Int) * 256) = ((n * 256 : Nat) : Int) := by omega
  rw [e, u32_or_nat (n * 256) m (by omega) (by omega), Rd.or_mul m n 8 256 (by decide) (by omega)]
  omega
end Go.Proofs.YtaogegeidbclaaaGreatDoor
