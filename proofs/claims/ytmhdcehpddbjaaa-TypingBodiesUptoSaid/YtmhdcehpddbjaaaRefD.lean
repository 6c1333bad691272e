/- The law TableIs, in plain Lean. -/
import Derived.Test.YtmhdcehpddbjaaaTabE
import Derived.Test.YtmhdcehpddbjaaaTabF
import Derived.Test.YtmhdcehpddbjaaaTabC
import Derived.Test.YtmhdcehpddbjaaaTabD
import Derived.StillTailTactics
import Derived.Test.YtmhdcehpddbjaaaTabG
import Derived.Test.YtmhdcehpddbjaaaTabFields
set_option linter.unusedSimpArgs false
set_option linter.unusedVariables false
namespace Go.Proofs.Ytmhdcehpddbjaaa

def Tb.next (u : List Dk) (d : Int) : Int := Tb.find u (Tb.base u d)
theorem Tb.find_congr {u : List Dk} {s t : ByteArray} (h : s.toList = t.toList) : Tb.find u s = Tb.find u t := by
  unfold Tb.find; rw [h]
theorem Tb.chainGo_sub {u : List Dk} {S : Int → Prop} (hS : ∀ x, S x → Tb.kind u (Tb.next u x) = 2 → S (Tb.next u x)) : ∀ (f : Nat) (l : List Int) (c : Int), (∀ x ∈ l, S x) → (Tb.kind u c = 2 → S c) → ∀ x ∈ Tb.chainGo u f l c, S x
  | 0, _, _, hl, _ => hl
  | f + 1, l, c, hl, hc => by
    unfold Tb.chainGo
    by_cases h : Tb.kind u c = 2 ∧ c ∉ l
    · rw [if_pos h]
      exact Tb.chainGo_sub hS f _ _ (fun x hx => by
        rcases List.mem_append.1 hx with hx | hx
        · exact hl x hx
        · have : x = c := by simpa using hx
          exact this ▸ hc h.1) (fun hk => hS c (hc h.1) hk)
    · rw [if_neg h]; exact hl
theorem Tb.chain_closed_go {u : List Dk} {d0 : Int} : ∀ (m : Nat) (l : List Int) (c : Int), u.length - l.length ≤ m → Tb.ChainAt u d0 l c → (∀ x ∈ l, Tb.kind u x = 2 ∧ (Tb.kind u (Tb.next u x) = 2 → Tb.next u x ∈ l ∨ Tb.next u x = c)) →
    ∀ x ∈ Tb.chain u d0, Tb.kind u x = 2 ∧ (Tb.kind u (Tb.next u x) = 2 → Tb.next u x ∈ Tb.chain u d0) := by
  intro m
  induction m with
  | zero =>
    intro l c hm h hi
    by_cases hs : Tb.kind u c = 2 ∧ c ∉ l
    · have h1 := (h.next hs.1 hs.2).len
      simp at h1; omega
    · have he := h.stop hs
      intro x hx
      rw [← he] at hx ⊢
      refine ⟨(hi x hx).1, fun hk => ?_⟩
      rcases (hi x hx).2 hk with h1 | h1
      · exact h1
      · rw [h1] at hk ⊢
        exact Classical.byContradiction fun hn => hs ⟨hk, hn⟩
  | succ m ih =>
    intro l c hm h hi
    by_cases hs : Tb.kind u c = 2 ∧ c ∉ l
    · refine ih (l ++ [c]) (Tb.next u c) (by simp; omega) (h.next hs.1 hs.2) (fun x hx => ?_)
      rcases List.mem_append.1 hx with hx | hx
      · refine ⟨(hi x hx).1, fun hk => ?_⟩
        rcases (hi x hx).2 hk with h1 | h1
        · exact Or.inl (List.mem_append_left _ h1)
        · exact Or.inl (List.mem_append_right _ (by simp [h1]))
      · have : x = c := by simpa using hx
        subst this
        exact ⟨hs.1, fun _ => Or.inr rfl⟩
    · have he := h.stop hs
      intro x hx
      rw [← he] at hx ⊢
      refine ⟨(hi x hx).1, fun hk => ?_⟩
      rcases (hi x hx).2 hk with h1 | h1
      · exact h1
      · rw [h1] at hk ⊢
        exact Classical.byContradiction fun hn => hs ⟨hk, hn⟩
theorem Tb.chain_closed {u : List Dk} {d : Int} : ∀ x ∈ Tb.chain u d, Tb.kind u x = 2 ∧ (Tb.kind u (Tb.next u x) = 2 → Tb.next u x ∈ Tb.chain u d) :=
  Tb.chain_closed_go u.length [] d (by simp) (Tb.ChainAt.start u d) (fun x hx => by cases hx)
/-- The chain of one on a chain lies on it. -/
theorem Tb.chain_sub {u : List Dk} {d e : Int} (h : e ∈ Tb.chain u d) : ∀ x ∈ Tb.chain u e, x ∈ Tb.chain u d :=
  Tb.chainGo_sub (S := fun x => x ∈ Tb.chain u d) (fun x hx hk => (Tb.chain_closed x hx).2 hk) _ [] e (fun x hx => by cases hx) (fun _ => h)
theorem Tb.chainGo_mem {u : List Dk} : ∀ (f : Nat) (l : List Int) (c : Int), ∀ x ∈ l, x ∈ Tb.chainGo u f l c
  | 0, _, _, _, h => h
  | f + 1, l, c, x, h => by
    unfold Tb.chainGo
    split
    · exact Tb.chainGo_mem f _ _ x (List.mem_append_left _ h)
    · exact h
theorem Tb.chain_self {u : List Dk} {d : Int} (h : Tb.kind u d = 2) : d ∈ Tb.chain u d := by
  unfold Tb.chain Tb.chainGo
  rw [if_pos ⟨h, by simp⟩]
  exact Tb.chainGo_mem _ _ _ d (by simp)
theorem Tb.chain_none {u : List Dk} {d : Int} (h : Tb.kind u d ≠ 2) : Tb.chain u d = [] := by
  unfold Tb.chain Tb.chainGo
  rw [if_neg (fun h' => h h'.1)]
/-- Each on a chain but the first is found by a name. -/
theorem Tb.chain_found {u : List Dk} {d : Int} (S : Int → Prop) (hd : S d) (hf : ∀ s, S (Tb.find u s)) : ∀ x ∈ Tb.chain u d, S x :=
  Tb.chainGo_sub (S := S) (fun _ _ _ => hf _) _ [] d (fun x hx => by cases hx) (fun _ => hd)
theorem Tb.mem_addFaces {u : List Dk} {f : Int} : ∀ (ss : List ByteArray) (l : List Int), f ∈ ss.foldl (Tb.addFace u) l ↔ f ∈ l ∨ ∃ s ∈ ss, Tb.kind u f = 1 ∧ f = Tb.find u s
  | [], l => by simp
  | s :: ss, l => by
    rw [List.foldl_cons, Tb.mem_addFaces ss]
    have h : f ∈ Tb.addFace u l s ↔ f ∈ l ∨ (Tb.kind u f = 1 ∧ f = Tb.find u s) := by
      unfold Tb.addFace
      split
      · rename_i h
        constructor
        · intro h'
          rcases List.mem_append.1 h' with h' | h'
          · exact Or.inl h'
          · have : f = Tb.find u s := by simpa using h'
            exact Or.inr ⟨this ▸ h.1, this⟩
        · rintro (h' | ⟨_, h'⟩)
          · exact List.mem_append_left _ h'
          · exact List.mem_append_right _ (by simp [h'])
      · rename_i h
        constructor
        · exact Or.inl
        · rintro (h' | ⟨h1, h2⟩)
          · exact h'
          · exact Classical.byContradiction fun hn => h ⟨h2 ▸ h1, h2 ▸ hn⟩
    rw [h]
    constructor
    · rintro ((h1 | h1) | ⟨s', h1, h2⟩)
      · exact Or.inl h1
      · exact Or.inr ⟨s, by simp, h1⟩
      · exact Or.inr ⟨s', List.mem_cons_of_mem _ h1, h2⟩
    · rintro (h1 | ⟨s', h1, h2⟩)
      · exact Or.inl (Or.inl h1)
      · rcases List.mem_cons.1 h1 with rfl | h1
        · exact Or.inl (Or.inr h2)
        · exact Or.inr ⟨s', h1, h2⟩
theorem Tb.mem_facesGo {u : List Dk} {f : Int} : ∀ (cs l : List Int), f ∈ cs.foldl (fun l c => (Tb.facesOf u c).foldl (Tb.addFace u) l) l ↔ f ∈ l ∨ ∃ c ∈ cs, ∃ s ∈ Tb.facesOf u c, Tb.kind u f = 1 ∧ f = Tb.find u s
  | [], l => by simp
  | c :: cs, l => by
    rw [List.foldl_cons, Tb.mem_facesGo cs, Tb.mem_addFaces]
    constructor
    · rintro ((h1 | h1) | ⟨c', h1, h2⟩)
      · exact Or.inl h1
      · exact Or.inr ⟨c, by simp, h1⟩
      · exact Or.inr ⟨c', List.mem_cons_of_mem _ h1, h2⟩
    · rintro (h1 | ⟨c', h1, h2⟩)
      · exact Or.inl (Or.inl h1)
      · rcases List.mem_cons.1 h1 with rfl | h1
        · exact Or.inl (Or.inr h2)
        · exact Or.inr ⟨c', h1, h2⟩
theorem Tb.mem_faces {u : List Dk} {d f : Int} : f ∈ Tb.faces u d ↔ ∃ c ∈ Tb.chain u d, ∃ s ∈ Tb.facesOf u c, Tb.kind u f = 1 ∧ f = Tb.find u s := by
  unfold Tb.faces
  rw [Tb.mem_facesGo]; simp
theorem Tb.faces_sub {u : List Dk} {d e : Int} (h : e ∈ Tb.chain u d) : ∀ x ∈ Tb.faces u e, x ∈ Tb.faces u d := by
  intro x hx
  obtain ⟨c, hc, r⟩ := Tb.mem_faces.1 hx
  exact Tb.mem_faces.2 ⟨c, Tb.chain_sub h c hc, r⟩

theorem Tb.is_congr {u : List Dk} {x x' y y' : ByteArray} (hx : x.toList = x'.toList) (hy : y.toList = y'.toList) : Tb.is u x y = Tb.is u x' y' := by
  unfold Tb.is; rw [Tb.find_congr hx, Tb.find_congr hy, hx, hy]
/-- What is one of its base's is one of that base's base's, and of all interfaces of its chain. -/
theorem Tb.is_trans {u : List Dk} {x y z : ByteArray} (h1 : Tb.is u x y = true) (h2 : Tb.is u y z = true) : Tb.is u x z = true := by
  have heq : ∀ p q : ByteArray, (p.toList == q.toList) = true → p.toList = q.toList := fun p q h => by simpa using h
  by_cases hA : Tb.kind u (Tb.find u x) = 2 ∧ (Tb.find u y ∈ Tb.chain u (Tb.find u x) ∨ Tb.find u y ∈ Tb.faces u (Tb.find u x))
  · by_cases hB : Tb.kind u (Tb.find u y) = 2 ∧ (Tb.find u z ∈ Tb.chain u (Tb.find u y) ∨ Tb.find u z ∈ Tb.faces u (Tb.find u y))
    · have hc : Tb.find u y ∈ Tb.chain u (Tb.find u x) := by
        rcases hA.2 with h | h
        · exact h
        · obtain ⟨_, _, _, _, hk, _⟩ := Tb.mem_faces.1 h
          have := hB.1; omega
      unfold Tb.is
      rw [if_pos ⟨hA.1, hB.2.elim (fun h => Or.inl (Tb.chain_sub hc _ h)) (fun h => Or.inr (Tb.faces_sub hc _ h))⟩]
    · have he : y.toList = z.toList := by
        unfold Tb.is at h2
        rw [if_neg hB] at h2
        split at h2
        · exact heq _ _ h2
        · cases h2
      exact (Tb.is_congr rfl he).symm.trans h1
  · have he : x.toList = y.toList := by
      unfold Tb.is at h1
      rw [if_neg hA] at h1
      split at h1
      · exact heq _ _ h1
      · cases h1
    exact (Tb.is_congr he rfl).trans h2
theorem Tb.is_self {u : List Dk} {x : ByteArray} : Tb.is u x x = decide (Tb.kind u (Tb.find u x) = 2 ∨ Tb.kind u (Tb.find u x) = 1) := by
  unfold Tb.is
  by_cases h2 : Tb.kind u (Tb.find u x) = 2
  · rw [if_pos ⟨h2, Or.inl (Tb.chain_self h2)⟩]; simp [h2]
  · rw [if_neg (fun h => h2 h.1)]
    by_cases h1 : Tb.kind u (Tb.find u x) = 1 <;> simp [h1, h2]
theorem Tb.is_thing {u : List Dk} {x y : ByteArray} (h : ¬ (Tb.kind u (Tb.find u x) = 2 ∨ Tb.kind u (Tb.find u x) = 1)) : Tb.is u x y = false := by
  unfold Tb.is
  rw [if_neg (fun h' => h (Or.inl h'.1)), if_neg h]
/-- What a name finds has that name. -/
theorem Tb.find_name {u : List Dk} {s : ByteArray} {i : Nat} (h : Tb.find u s = i) : ∃ d, u[i]? = some d ∧ d.name.toList = s.toList := by
  unfold Tb.find at h
  cases hf : u.findIdx? (fun d => d.name.toList == s.toList) with
  | none => rw [hf] at h; simp at h
  | some k =>
    rw [hf] at h
    obtain rfl : k = i := Int.ofNat_inj.1 h
    obtain ⟨hk, h1, _⟩ := List.findIdx?_eq_some_iff_getElem.1 hf
    exact ⟨u[k], List.getElem?_eq_getElem hk, by simpa using h1⟩
/-- It is each of its chain, and of its interfaces. -/
theorem Tb.is_chain {u : List Dk} {x : ByteArray} {i : Nat} {d : Dk} (hc : (i : Int) ∈ Tb.chain u (Tb.find u x)) (hd : u[i]? = some d) : Tb.is u x d.name = true := by
  have hk : Tb.kind u (Tb.find u x) = 2 := Classical.byContradiction fun h => by rw [Tb.chain_none h] at hc; cases hc
  have hf : Tb.find u d.name = i := Tb.chain_found (u := u) (d := Tb.find u x) (fun c => ∀ (i : Nat) (d : Dk), c = i → u[i]? = some d → Tb.find u d.name = i)
    (fun i d h1 h2 => by obtain ⟨d', h3, h4⟩ := Tb.find_name h1; obtain rfl : d' = d := by simpa [h2] using h3.symm
                         exact (Tb.find_congr h4).trans h1)
    (fun s i d h1 h2 => by obtain ⟨d', h3, h4⟩ := Tb.find_name h1; obtain rfl : d' = d := by simpa [h2] using h3.symm
                           exact (Tb.find_congr h4).trans h1) _ hc i d rfl hd
  unfold Tb.is
  rw [hf, if_pos ⟨hk, Or.inl hc⟩]
theorem Tb.is_face {u : List Dk} {x : ByteArray} {i : Nat} {d : Dk} (hc : (i : Int) ∈ Tb.faces u (Tb.find u x)) (hd : u[i]? = some d) : Tb.is u x d.name = true := by
  obtain ⟨c, h1, s, h2, h3, h4⟩ := Tb.mem_faces.1 hc
  have hk : Tb.kind u (Tb.find u x) = 2 := Classical.byContradiction fun h => by rw [Tb.chain_none h] at h1; cases h1
  obtain ⟨d', h5, h6⟩ := Tb.find_name h4.symm
  obtain rfl : d' = d := by simpa [hd] using h5.symm
  unfold Tb.is
  rw [(Tb.find_congr h6).trans h4.symm, if_pos ⟨hk, Or.inr hc⟩]
end Go.Proofs.Ytmhdcehpddbjaaa
/- The document's answers: Find, Kind, has, own, as walks. -/
namespace Go.Proofs.Ytmhdcehpddbjaaa
open Go.RowKit

set_option maxRecDepth 100000 in
set_option maxHeartbeats 2000000 in
theorem rfind_any (u : List Dk) (a : Option Addr) (B cap : Nat) (s : ByteArray) (w : World) (hu : UnitAt w B a u) (hB : B ≤ w.heap.size) :
    Calls Try.prog 61 #[.agg #[.slice a u.length cap], .string s] w fun e w' => e = .returned (.int .i64 (Tb.find u s)) ∧ Below w.heap.size w w' := by
  have sm := hu.small
  have hb0 : Below w.heap.size w (w.alloc (.cells #[.slice a u.length cap] 24)) := (Below.refl _ _).alloc (Nat.le_refl _) _
  have P0 : Aid.Has (w.alloc (.cells #[.slice a u.length cap] 24)) w.heap.size [.slice a u.length cap] 24 := Aid.Has.new _ _ _
  have HU := Aid.hid (hu.below hb0 hB)
  clear hu
  go_enter Try.func61, Try.ntmps61
  try simp only [List.append_eq, List.cons_append, List.nil_append]
  go_wp2_with fail
  obtain ⟨pb, hpb⟩ : ∃ pb, w.heap.size = pb := ⟨_, rfl⟩
  generalize (w.alloc (.cells #[.slice a u.length cap] 24)) = W at *
  rw [hpb] at P0 ⊢
  have cp := P0.cell 0 _ rfl
  have HB := Aid.hid hb0
  clear hb0 hpb
  go_loopw [5] (fun vi wr => ∃ k : Nat, vi = .int .i64 k ∧ k ≤ u.length ∧ Hid (∀ j, j < k → ∀ e, u[j]? = some e → (e.name.toList == s.toList) = false) ∧ wr = W) (fun vi _ => u.length - (intOf vi).toNat)
  case atStart => exact ⟨0, rfl, Nat.zero_le _, Aid.hid (fun j hj => by omega), rfl⟩
  case round =>
    obtain ⟨k, rfl, hk, NO, rfl⟩ := hrel
    by_cases hkl : k < u.length
    · obtain ⟨b, off, rfl, _, hc⟩ := HU.out.at_ (by omega)
      obtain ⟨d, hd⟩ : ∃ d, u[k]? = some d := ⟨_, List.getElem?_eq_getElem hkl⟩
      have c1 := hc k d hd 1 _ rfl
      have HD := Aid.hid hd
      clear hc hd
      cases hr : (d.name.toList == s.toList)
      · have NX : Hid (∀ j, j < k + 1 → ∀ e, u[j]? = some e → (e.name.toList == s.toList) = false) := Aid.hid (fun j hj e he => by
          rcases Nat.lt_or_ge j k with h | h
          · exact NO.out j h e he
          · obtain rfl : j = k := by omega
            rw [HD.out] at he
            obtain rfl := Option.some.inj he
            exact hr)
        go_wp2_with fail
        go_roundw
        case rel => exact ⟨k + 1, by go_num, by omega, NX, by trivial⟩
        case measure => simp [intOf]; omega
      · have E := Aid.hid (Tb.find_hit HD.out hr NO.out)
        go_wp2_with fail
        go_ret
        exact ⟨by rw [E.out]; rfl, HB.out⟩
    · have E := Aid.hid (Tb.find_miss (u := u) (s := s) (fun j hj => NO.out j (by omega)))
      go_wp2_with fail
      go_ret
      exact ⟨by rw [E.out]; rfl, HB.out⟩
theorem rfind_is (u : List Dk) (a : Option Addr) (B cap : Nat) (s : ByteArray) (r : Int) (w : World) (hr : Tb.find u s = r) (hu : UnitAt w B a u) (hB : B ≤ w.heap.size) :
    Calls Try.prog 61 #[.agg #[.slice a u.length cap], .string s] w fun e w' => e = .returned (.int .i64 r) ∧ Below w.heap.size w w' := by
  rw [← hr]; exact rfind_any u a B cap s w hu hB

set_option maxRecDepth 100000 in
set_option maxHeartbeats 2000000 in
theorem rkind_any (u : List Dk) (a : Option Addr) (B cap : Nat) (d : Int) (w : World) (hu : UnitAt w B a u) (hB : B ≤ w.heap.size) :
    Calls Try.prog 57 #[.agg #[.slice a u.length cap], .int .i64 d] w fun e w' => e = .returned (.int .i64 (Tb.kind u d)) ∧ Below w.heap.size w w' := by
  have HU := Aid.hid hu
  have sm := hu.small
  clear hu
  have hb : Below w.heap.size w (w.alloc (.cells #[.slice a u.length cap] 24)) := (Below.refl _ _).alloc (Nat.le_refl _) _
  by_cases h0 : 0 ≤ d
  · obtain ⟨i, rfl⟩ := Int.eq_ofNat_of_zero_le h0
    by_cases hi : i < u.length
    · obtain ⟨x, hx⟩ : ∃ x, u[i]? = some x := ⟨_, List.getElem?_eq_getElem hi⟩
      have E : Hid (Tb.kind u i = x.kind) := Aid.hid (by unfold Tb.kind; rw [if_pos h0]; simp [hx])
      obtain ⟨b, off, rfl, _, hc⟩ := (HU.out.below hb hB).at_ (by omega)
      have c0 := hc i x hx 0 _ rfl
      simp only [Nat.add_zero] at c0
      have HB := Aid.hid hb
      clear hc hx hb
      go_enter Try.func57, Try.ntmps57
      go_wp2_with fail
      go_ret
      exact ⟨by rw [E.out]; rfl, HB.out⟩
    · have E : Hid (Tb.kind u i = 0) := Aid.hid (by unfold Tb.kind; rw [if_pos h0]; simp [List.getElem?_eq_none (Nat.le_of_not_lt hi)])
      have HB := Aid.hid hb
      clear hb
      go_enter Try.func57, Try.ntmps57
      go_wp2_with fail
      go_ret
      exact ⟨by rw [E.out]; rfl, HB.out⟩
  · have E : Hid (Tb.kind u d = 0) := Aid.hid (by unfold Tb.kind; rw [if_neg h0])
    have HB := Aid.hid hb
    clear hb
    go_enter Try.func57, Try.ntmps57
    go_wp2_with fail
    go_ret
    exact ⟨by rw [E.out]; rfl, HB.out⟩
theorem rkind_is (u : List Dk) (a : Option Addr) (B cap : Nat) (d r : Int) (w : World) (hr : Tb.kind u d = r) (hu : UnitAt w B a u) (hB : B ≤ w.heap.size) :
    Calls Try.prog 57 #[.agg #[.slice a u.length cap], .int .i64 d] w fun e w' => e = .returned (.int .i64 r) ∧ Below w.heap.size w w' := by
  rw [← hr]; exact rkind_any u a B cap d w hu hB

set_option maxRecDepth 100000 in
set_option maxHeartbeats 2000000 in
theorem rhas_any (A : Option Addr) (c B : Nat) (zs : List Int) (x : Int) (w : World) (h : IntsAt w B A zs) (hl : zs.length ≤ 1000000000) :
    Calls Try.prog 70 #[.slice A zs.length c, .int .i64 x] w fun e w' => e = .returned (.bool (decide (x ∈ zs))) ∧ w = w' := by
  have H := Aid.hid h
  clear h
  go_enter Try.func70, Try.ntmps70
  try simp only [List.append_eq, List.cons_append, List.nil_append]
  go_wp2_with fail
  go_loopw [5] (fun i wr => ∃ k : Nat, i = .int .i64 k ∧ k ≤ zs.length ∧ Hid (x ∉ zs.take k) ∧ wr = w) (fun i _ => zs.length - (intOf i).toNat)
  case atStart => exact ⟨0, rfl, Nat.zero_le _, Aid.hid (by simp), rfl⟩
  case round =>
    obtain ⟨k, rfl, hk, N, rfl⟩ := hrel
    by_cases hlt : k < zs.length
    · obtain ⟨ad, rfl, _, hc⟩ := H.out.at_ hlt
      obtain ⟨z, hz⟩ : ∃ z, zs[k]? = some z := ⟨_, List.getElem?_eq_getElem hlt⟩
      have c1 := hc k z hz
      have HZ := Aid.hid hz
      clear hc hz
      by_cases he : z = x
      · have E := Aid.hid (show decide (x ∈ zs) = true from decide_eq_true (he ▸ List.mem_of_getElem? HZ.out))
        subst he
        go_wp2_with fail
        go_ret
        exact ⟨by rw [E.out]; rfl, rfl⟩
      · have NX : Hid (x ∉ zs.take (k + 1)) := Aid.hid (by
          rw [List.take_add_one, HZ.out]
          intro hm
          rcases List.mem_append.1 hm with h | h
          · exact N.out h
          · have h2 : x = z := by simpa using h
            exact he h2.symm)
        have he2 : (z == x) = false := by simpa using he
        go_wp2_with fail
        go_roundw
        case rel => exact ⟨k + 1, by go_num, by omega, NX, by trivial⟩
        case measure => simp [intOf]; omega
    · have E : Hid (decide (x ∈ zs) = false) := Aid.hid (decide_eq_false (by have h := N.out; rwa [List.take_of_length_le (by omega)] at h))
      go_wp2_with fail
      go_ret
      exact ⟨by rw [E.out]; rfl, rfl⟩
theorem rhas_is (A : Option Addr) (c B : Nat) (zs : List Int) (x : Int) (r : Bool) (w : World) (hr : decide (x ∈ zs) = r) (h : IntsAt w B A zs) (hl : zs.length ≤ 1000000000) :
    Calls Try.prog 70 #[.slice A zs.length c, .int .i64 x] w fun e w' => e = .returned (.bool r) ∧ w = w' := by
  rw [← hr]; exact rhas_any A c B zs x w h hl

set_option maxRecDepth 100000 in
set_option maxHeartbeats 2000000 in
theorem rown_any (d : Dk) (B : Nat) (s : ByteArray) (w : World) (hd : DkAt w B d) (hB : B ≤ w.heap.size) :
    Calls Try.prog 82 #[.agg d.cells.toArray, .string s] w fun e w' => e = .returned (.int .i64 (Tb.mindex d.ms s)) ∧ Below w.heap.size w w' := by
  have sm := hd.smallM
  have hb0 : Below w.heap.size w (w.alloc (.cells d.cells.toArray 48)) := (Below.refl _ _).alloc (Nat.le_refl _) _
  have P0 : Aid.Has (w.alloc (.cells d.cells.toArray 48)) w.heap.size d.cells 48 := Aid.Has.new _ _ _
  have HD := Aid.hid (hd.below hb0 hB)
  clear hd
  unfold Dk.cells at hb0 P0 HD ⊢
  go_enter Try.func82, Try.ntmps82
  try simp only [List.append_eq, List.cons_append, List.nil_append]
  go_wp2_with fail
  obtain ⟨pb, hpb⟩ : ∃ pb, w.heap.size = pb := ⟨_, rfl⟩
  generalize hW : w.alloc _ = W at *
  clear hW
  rw [hpb] at P0 ⊢
  have cp := P0.cell 7 _ rfl
  have HB := Aid.hid hb0
  clear hb0 hpb
  go_loopw [5] (fun vi wr => ∃ k : Nat, vi = .int .i64 k ∧ k ≤ d.ms.length ∧ Hid (∀ j, j < k → ∀ e, d.ms[j]? = some e → (e.name.toList == s.toList) = false) ∧ wr = W) (fun vi _ => d.ms.length - (intOf vi).toNat)
  case atStart => exact ⟨0, rfl, Nat.zero_le _, Aid.hid (fun j hj => by omega), rfl⟩
  case round =>
    obtain ⟨k, rfl, hk, NO, rfl⟩ := hrel
    by_cases hkl : k < d.ms.length
    · obtain ⟨b, off, hA, _, hc⟩ := HD.out.meth (by omega)
      rw [hA] at cp
      obtain ⟨m, hm⟩ : ∃ m, d.ms[k]? = some m := ⟨_, List.getElem?_eq_getElem hkl⟩
      have c0 := hc k m hm 0 _ rfl
      simp only [Nat.add_zero] at c0
      have HM := Aid.hid hm
      clear hc hm hA
      cases hr : (m.name.toList == s.toList)
      · have NX : Hid (∀ j, j < k + 1 → ∀ e, d.ms[j]? = some e → (e.name.toList == s.toList) = false) := Aid.hid (fun j hj e he => by
          rcases Nat.lt_or_ge j k with h | h
          · exact NO.out j h e he
          · obtain rfl : j = k := by omega
            rw [HM.out] at he
            obtain rfl := Option.some.inj he
            exact hr)
        go_wp2_with fail
        go_roundw
        case rel => exact ⟨k + 1, by go_num, by omega, NX, by trivial⟩
        case measure => simp [intOf]; omega
      · have E := Aid.hid (Tb.mindex_hit HM.out hr NO.out)
        go_wp2_with fail
        go_ret
        exact ⟨by rw [E.out]; rfl, HB.out⟩
    · have E := Aid.hid (Tb.mindex_miss (u := d.ms) (s := s) (fun j hj => NO.out j (by omega)))
      go_wp2_with fail
      go_ret
      exact ⟨by rw [E.out]; rfl, HB.out⟩
theorem rown_is (d : Dk) (B : Nat) (s : ByteArray) (r : Int) (w : World) (hr : Tb.mindex d.ms s = r) (hd : DkAt w B d) (hB : B ≤ w.heap.size) :
    Calls Try.prog 82 #[.agg d.cells.toArray, .string s] w fun e w' => e = .returned (.int .i64 r) ∧ Below w.heap.size w w' := by
  rw [← hr]; exact rown_any d B s w hd hB
end Go.Proofs.Ytmhdcehpddbjaaa
/- The document's Chain, as a walk. -/
namespace Go.Proofs.Ytmhdcehpddbjaaa
open Go.RowKit

set_option maxRecDepth 100000 in
set_option maxHeartbeats 2000000 in
theorem rchain_any (u : List Dk) (a : Option Addr) (B cap : Nat) (d0 : Int) (w : World) (hu : UnitAt w B a u) (hB : B ≤ w.heap.size) :
    Calls Try.prog 64 #[.agg #[.slice a u.length cap], .int .i64 d0] w fun e w' => ∃ A c zs, e = .returned (.slice A zs.length c) ∧ zs = Tb.chain u d0 ∧
      w'.ownsRow w.heap.size 3 1 (.slice A zs.length c) zs.length (zs.map (Value.int .i64)) ∧ Below w.heap.size w w' := by
  have HU := Aid.hid hu
  have sm := hu.small
  clear hu
  have B0 : Below w.heap.size w (w.alloc (.cells #[.slice a u.length cap] 24)) := (Below.refl _ _).alloc (Nat.le_refl _) _
  have P0 : Aid.Has (w.alloc (.cells #[.slice a u.length cap] 24)) w.heap.size [.slice a u.length cap] 24 := Aid.Has.new _ _ _
  have S0 : (w.alloc (.cells #[.slice a u.length cap] 24)).heap.size = w.heap.size + 1 := by simp
  go_enter Try.func64, Try.ntmps64
  try simp only [List.append_eq, List.cons_append, List.nil_append]
  obtain ⟨i0, hi, hz0, hz1, hz2⟩ := info_parts info_int
  go_wp2_with fail
  obtain ⟨pb, hpb⟩ : ∃ pb, w.heap.size = pb := ⟨_, rfl⟩
  generalize (w.alloc (.cells #[.slice a u.length cap] 24)) = w1 at *
  rw [hpb] at P0 S0 ⊢
  have O0 : w1.ownsRow (pb + 1) 3 1 (.slice none ([] : List Int).length 0) ([] : List Int).length (([] : List Int).map (Value.int .i64)) := World.ownsRow_nil _ _ _ _
  go_loopw [1, 5] (fun vd vl wr => ∃ (d : Int) (l : List Int) (A : Option Addr) (c : Nat), vd = .int .i64 d ∧ vl = .slice A l.length c ∧ Hid (Tb.ChainAt u d0 l d) ∧ Hid (wr.ownsRow (pb + 1) 3 1 (.slice A l.length c) l.length (l.map (Value.int .i64))) ∧
      Aid.Has wr pb [.slice a u.length cap] 24 ∧ Below w.heap.size w wr ∧ pb + 1 ≤ wr.heap.size) (fun _ vl _ => u.length + 1 - (match vl with | .slice _ n _ => n | _ => 0))
  case atStart => exact ⟨d0, [], none, 0, rfl, rfl, Aid.hid (Tb.ChainAt.start u d0), Aid.hid O0, P0, B0, Nat.le_of_eq S0.symm⟩
  case round =>
    clear O0 P0 B0 S0
    obtain ⟨d, l, A, c, rfl, rfl, CA, O, hp, hb, hsz⟩ := hrel
    have LN := CA.out.len
    have LN2 : l.length ≤ 1000000000 := by omega
    have cp := hp.cell 0 _ rfl
    obtain ⟨k, hk⟩ : ∃ k, Tb.kind u d = k := ⟨_, rfl⟩
    have HK := Aid.hid hk
    clear hk
    go_wp2_with fail
    refine (rkind_is u a B cap d k _ HK.out (HU.out.below hb hB) (Nat.le_trans hB hb.size)).mono ?_; rintro e w2 ⟨rfl, hb2⟩
    have hp2 := hp.below hb2 hp.lt
    have O2 : Hid (w2.ownsRow (pb + 1) 3 1 (.slice A l.length c) l.length (l.map (Value.int .i64))) := Aid.hid (own_stays O.out hb2)
    have hsz2 := Nat.le_trans hsz hb2.size
    replace hb := hb.trans (hb2.mono hb.size)
    clear hp O hsz hb2 cp
    have cp := hp2.cell 0 _ rfl
    by_cases hk2 : k = 2
    · obtain ⟨r, hr⟩ : ∃ r, decide (d ∈ l) = r := ⟨_, rfl⟩
      have HR := Aid.hid hr
      clear hr
      subst hk2
      go_wp2_with fail
      refine (rhas_is A c _ l d r _ HR.out (IntsAt.of_own O2.out) LN2).mono ?_; rintro e w3 ⟨rfl, rfl⟩
      cases r
      · obtain ⟨i, x, rfl, hx, hxk, hil⟩ := Tb.kind_in HK.out (by decide)
        have NX := Aid.hid (CA.out.next HK.out (of_decide_eq_false HR.out))
        have EB : Hid (Tb.base u i = x.base) := Aid.hid (by unfold Tb.base; simp [hx])
        go_wp2_with (at_builtin; refine wpList_append_own _ rfl _ _ 92 rfl (pb + 1) 3 i0 (.int .i64 0) 1 8 Try.underlying92 hi hz0 hz1 hz2 rfl (by decide) _ _ _ rfl (O2.out.alloc _) ⟨w2.heap.size, 0, none⟩ 1 1 [.int .i64 i] rfl rfl ?c1 ?c2 ?c3 ?c4 ?c5 ?_)
        case c1 =>
          intro j q hj
          match j, hj with
          | 0, hj => simp at hj; subst hj; simp [Addr.add]
        case c2 => intro q hq; simp at hq; subst hq; rfl
        case c3 => unfold maxLen; omega
        case c4 => omega
        case c5 => simp; omega
        · intro v' w3 hown' hgrow _
          have hp3 : Aid.Has w3 pb [.slice a u.length cap] 24 := (hgrow.block pb (by have := hp2.lt; simp; omega) (fun h => by have := (O2.out.lt pb h.symm).1; omega)).trans (hp2.alloc _)
          have hb3 : Below w.heap.size w w3 := (hb.alloc hb.size _).grown hgrow (by have := hb.size; simp; omega) (fun q hq => by have := (O2.out.lt q hq).1; omega)
          have hsz3 : pb + 1 ≤ w3.heap.size := by have := hgrow.size; simp at this; omega
          obtain ⟨g, cap', rfl, _, _⟩ := hown'.form (by omega)
          have O3 := Aid.hid hown'
          clear hp2 hb hsz2 hgrow cp O2 hown'
          have cp := hp3.cell 0 _ rfl
          obtain ⟨b, off, rfl, _, hc⟩ := (HU.out.below hb3 hB).at_ (by omega)
          have cb := hc i x hx 2 _ rfl
          have cpf := hp3.frozen
          clear hc
          go_wp2_with fail
          go_still_tail 7, (by kernel_rfl)
          change wpList _ _ _ _ _ w3.drew
          replace hb3 := hb3.drew
          replace hp3 := hp3.drew
          replace O3 : Hid (w3.drew.ownsRow (pb + 1) 3 1 (.slice (some ⟨g, 0, none⟩) (l.length + 1) cap') (l.length + 1) (l.map (Value.int .i64) ++ [.int .i64 i])) := O3
          replace hsz3 : pb + 1 ≤ w3.drew.heap.size := hsz3
          clear cp cb cpf
          generalize w3.drew = w4 at *
          go_wp2_with fail
          refine (rfind_is u _ B cap x.base _ _ rfl (HU.out.below hb3 hB) (Nat.le_trans hB hb3.size)).mono ?_; rintro e w5 ⟨rfl, hb5⟩
          have hp5 := hp3.below hb5 hp3.lt
          have O5 : Hid (w5.ownsRow (pb + 1) 3 1 (.slice (some ⟨g, 0, none⟩) (l.length + 1) cap') (l.length + 1) (l.map (Value.int .i64) ++ [.int .i64 i])) := Aid.hid (own_stays O3.out hb5)
          have hsz5 := Nat.le_trans hsz3 hb5.size
          replace hb3 := hb3.trans (hb5.mono hb3.size)
          clear hp3 O3 hsz3 hb5
          go_wp2_with fail
          go_roundw
          case rel => exact ⟨_, l ++ [(i : Int)], some ⟨g, 0, none⟩, cap', rfl, by simp, Aid.hid (by rw [← EB.out]; exact NX.out), Aid.hid (by simpa using O5.out), hp5, hb3, hsz5⟩
          case measure => simp; omega
      · have E := Aid.hid (CA.out.stop (fun h => h.2 (of_decide_eq_true HR.out)))
        go_wp2_with fail
        go_ret
        exact ⟨A, c, l, rfl, E.out, by rw [hpb]; exact own_lower O2.out (by omega), hb⟩
    · have E := Aid.hid (CA.out.stop (fun h => hk2 (HK.out.symm.trans h.1)))
      have hk3 : (k == 2) = false := by simpa using hk2
      go_wp2_with fail
      go_ret
      exact ⟨A, c, l, rfl, E.out, by rw [hpb]; exact own_lower O2.out (by omega), hb⟩
theorem rchain_is (u : List Dk) (a : Option Addr) (B cap : Nat) (d0 : Int) (zs : List Int) (w : World) (hz : Tb.chain u d0 = zs) (hu : UnitAt w B a u) (hB : B ≤ w.heap.size) :
    Calls Try.prog 64 #[.agg #[.slice a u.length cap], .int .i64 d0] w fun e w' => ∃ A c, e = .returned (.slice A zs.length c) ∧
      w'.ownsRow w.heap.size 3 1 (.slice A zs.length c) zs.length (zs.map (Value.int .i64)) ∧ Below w.heap.size w w' := by
  subst hz
  refine (rchain_any u a B cap d0 w hu hB).mono ?_
  rintro e w' ⟨A, c, zs, rfl, rfl, h⟩
  exact ⟨A, c, rfl, h⟩
end Go.Proofs.Ytmhdcehpddbjaaa
/- The document's Faces, as a walk. -/
namespace Go.Proofs.Ytmhdcehpddbjaaa
open Go.RowKit

set_option maxRecDepth 100000 in
set_option maxHeartbeats 4000000 in
theorem rfaces_any (u : List Dk) (a : Option Addr) (B cap : Nat) (d0 : Int) (w : World) (hu : UnitAt w B a u) (hB : B ≤ w.heap.size) :
    Calls Try.prog 71 #[.agg #[.slice a u.length cap], .int .i64 d0] w fun e w' => ∃ A c zs, e = .returned (.slice A zs.length c) ∧ zs = Tb.faces u d0 ∧
      w'.ownsRow w.heap.size 3 1 (.slice A zs.length c) zs.length (zs.map (Value.int .i64)) ∧ Below w.heap.size w w' := by
  have HU := Aid.hid hu
  have sm := hu.small
  clear hu
  have B0 : Below w.heap.size w (w.alloc (.cells #[.slice a u.length cap] 24)) := (Below.refl _ _).alloc (Nat.le_refl _) _
  have P0 : Aid.Has (w.alloc (.cells #[.slice a u.length cap] 24)) w.heap.size [.slice a u.length cap] 24 := Aid.Has.new _ _ _
  go_enter Try.func71, Try.ntmps71
  try simp only [List.append_eq, List.cons_append, List.nil_append]
  obtain ⟨i0, hi, hz0, hz1, hz2⟩ := info_parts info_int
  go_wp2_with fail
  obtain ⟨pb, hpb⟩ : ∃ pb, w.heap.size = pb := ⟨_, rfl⟩
  generalize (w.alloc (.cells #[.slice a u.length cap] 24)) = w1 at *
  rw [hpb] at P0 ⊢
  obtain ⟨zs, hzs⟩ : ∃ zs, Tb.chain u d0 = zs := ⟨_, rfl⟩
  have HZ := Aid.hid hzs
  clear hzs
  refine (rchain_is u a B cap d0 zs w1 HZ.out (HU.out.below B0 hB) (Nat.le_trans hB B0.size)).mono ?_; rintro e W ⟨A, c, rfl, ow, hb1⟩
  have I1 := Aid.hid (IntsAt.of_own ow)
  have P1 := P0.below hb1 P0.lt
  have HU1 := Aid.hid ((HU.out.below B0 hB).below hb1 (Nat.le_trans hB B0.size))
  have BW := Aid.hid (B0.trans (hb1.mono B0.size))
  have hBW : B ≤ W.heap.size := Nat.le_trans hB BW.out.size
  have hpW : pb ≤ W.heap.size := Nat.le_of_lt P1.lt
  have hpl := P1.lt
  have PC := Aid.hid (P1.cell 0 _ rfl)
  have PF := Aid.hid (P1.frozen 0)
  have lz : zs.length ≤ 1000000000 := by have := Tb.chain_len u d0; rw [HZ.out] at this; omega
  clear B0 P0 hb1 ow P1
  have cp := PC.out
  go_wp2_with fail
  clear cp
  go_loopw [5, 7] (fun vl vi wr => ∃ (k : Nat) (A' : Option Addr) (c' : Nat) (l : List Int), vi = .int .i64 k ∧ k ≤ zs.length ∧ vl = .slice A' l.length c' ∧ Hid (l = (zs.take k).foldl (fun l c => (Tb.facesOf u c).foldl (Tb.addFace u) l) []) ∧ Hid (Tb.FacesAt u l) ∧
      Hid (wr.ownsRow W.heap.size 3 1 (.slice A' l.length c') l.length (l.map (Value.int .i64))) ∧ Below W.heap.size W wr) (fun _ vi _ => zs.length - (intOf vi).toNat)
  case atStart => exact ⟨0, none, 0, [], rfl, Nat.zero_le _, rfl, Aid.hid rfl, Aid.hid ⟨List.nodup_nil, by simp⟩, Aid.hid (World.ownsRow_nil _ _ _ _), Below.refl _ _⟩
  case round =>
    obtain ⟨k, A', c', l, rfl, hk, rfl, EL, FA, O, hb⟩ := hrel
    by_cases hlt : k < zs.length
    · obtain ⟨ad, rfl, _, hc⟩ := IntsAt.at_ (show IntsAt _ _ _ _ from Reads.below I1.out hb) hlt
      obtain ⟨z, hz⟩ : ∃ z, zs[k]? = some z := ⟨_, List.getElem?_eq_getElem hlt⟩
      have cz := hc k z hz
      obtain ⟨i, x, rfl, hx, _, hil⟩ := Tb.kind_in (Tb.chain_in u d0 z (by rw [HZ.out]; exact List.mem_of_getElem? hz)).2.2 (by decide)
      have EF : Hid (Tb.facesOf u i = x.faces) := Aid.hid (by unfold Tb.facesOf; simp [hx])
      have TK : Hid ((zs.take (k + 1)).foldl (fun l c => (Tb.facesOf u c).foldl (Tb.addFace u) l) [] = x.faces.foldl (Tb.addFace u) l) := Aid.hid (by rw [Tb.take_fold _ _ _ _ _ hz, EF.out, ← EL.out])
      have HX := Aid.hid (List.mem_of_getElem? hx)
      have cp := (hb.cell (p := ⟨pb, 0, none⟩) hpl).trans PC.out
      have HU2 := HU1.out.below hb hBW
      obtain ⟨b, off, rfl, _, hcu⟩ := HU2.at_ (by omega)
      have cf := hcu i x hx 3 _ rfl
      have sf := (HU2.decls x HX.out).smallF
      clear hc hcu HU2 hz hx
      go_wp2_with fail
      go_still_tail 9, (by kernel_rfl)
      change wpList _ _ _ _ _ wr.drew
      replace O : Hid (wr.drew.ownsRow W.heap.size 3 1 (.slice A' l.length c') l.length (l.map (Value.int .i64))) := O
      replace hb := hb.drew
      clear cz cf cp
      generalize wr.drew = wd at O hb ⊢
      go_wp2_with fail
      go_loopw [5, 9] (fun vl vj wi => ∃ (j : Nat) (A2 : Option Addr) (c2 : Nat) (l2 : List Int), vj = .int .i64 j ∧ j ≤ x.faces.length ∧ vl = .slice A2 l2.length c2 ∧ Hid (l2 = (x.faces.take j).foldl (Tb.addFace u) l) ∧ Hid (Tb.FacesAt u l2) ∧
          Hid (wi.ownsRow W.heap.size 3 1 (.slice A2 l2.length c2) l2.length (l2.map (Value.int .i64))) ∧ Below W.heap.size W wi) (fun _ vj _ => x.faces.length - (intOf vj).toNat)
      case atStart => exact ⟨0, A', c', l, rfl, Nat.zero_le _, rfl, Aid.hid rfl, FA, O, hb⟩
      case round =>
        clear O hb
        obtain ⟨j, A2, c2, l2, rfl, hj, rfl, EL2, FA2, O, hb⟩ := hrel
        have LN : l2.length ≤ 1000000000 := by have := FA2.out.len; omega
        by_cases hjl : j < x.faces.length
        · obtain ⟨s, hs⟩ : ∃ s, x.faces[j]? = some s := ⟨_, List.getElem?_eq_getElem hjl⟩
          have cp := (hb.cell (p := ⟨pb, 0, none⟩) hpl).trans PC.out
          have HU2 := HU1.out.below hb hBW
          obtain ⟨b2, off2, hfa, _, hcf⟩ := (HU2.decls x HX.out).face (by omega)
          rw [hfa]
          have cs := hcf j s hs
          have TK2 : Hid ((x.faces.take (j + 1)).foldl (Tb.addFace u) l = Tb.addFace u l2 s) := Aid.hid (by rw [Tb.take_fold _ _ _ _ _ hs, ← EL2.out])
          have FA3 : Hid (Tb.FacesAt u (Tb.addFace u l2 s)) := Aid.hid (FA2.out.add s)
          obtain ⟨f, hf⟩ : ∃ f, Tb.find u s = f := ⟨_, rfl⟩
          obtain ⟨kf, hkf⟩ : ∃ kf, Tb.kind u f = kf := ⟨_, rfl⟩
          have HF := Aid.hid hf
          have HK := Aid.hid hkf
          clear hcf hs hf hkf HU2
          go_wp2_with fail
          go_still_tail 5, (by kernel_rfl)
          change wpList _ _ _ _ _ wr.drew
          replace O : Hid (wr.drew.ownsRow W.heap.size 3 1 (.slice A2 l2.length c2) l2.length (l2.map (Value.int .i64))) := O
          replace hb := hb.drew
          clear cs cp
          generalize wr.drew = wd2 at O hb ⊢
          go_wp2_with fail
          refine (rfind_is u _ B cap s f _ HF.out (HU1.out.below hb hBW) (Nat.le_trans hBW hb.size)).mono ?_; rintro e w2 ⟨rfl, hb2⟩
          replace O : Hid (w2.ownsRow W.heap.size 3 1 (.slice A2 l2.length c2) l2.length (l2.map (Value.int .i64))) := Aid.hid (own_stays O.out hb2)
          replace hb := hb.trans (hb2.mono hb.size)
          clear hb2
          have cp := (hb.cell (p := ⟨pb, 0, none⟩) hpl).trans PC.out
          go_wp2_with fail
          refine (rkind_is u _ B cap f kf _ HK.out (HU1.out.below hb hBW) (Nat.le_trans hBW hb.size)).mono ?_; rintro e w3 ⟨rfl, hb2⟩
          replace O : Hid (w3.ownsRow W.heap.size 3 1 (.slice A2 l2.length c2) l2.length (l2.map (Value.int .i64))) := Aid.hid (own_stays O.out hb2)
          replace hb := hb.trans (hb2.mono hb.size)
          clear hb2 cp
          by_cases hk1 : kf = 1
          · subst hk1
            obtain ⟨r, hr⟩ : ∃ r, decide (f ∈ l2) = r := ⟨_, rfl⟩
            have HR := Aid.hid hr
            clear hr
            go_wp2_with fail
            refine (rhas_is A2 c2 _ l2 f r _ HR.out (IntsAt.of_own O.out) LN).mono ?_; rintro e w4 ⟨rfl, rfl⟩
            cases r
            · have EA : Hid (Tb.addFace u l2 s = l2 ++ [f]) := Aid.hid (by unfold Tb.addFace; rw [HF.out, if_pos ⟨HK.out, of_decide_eq_false HR.out⟩])
              go_wp2_with (at_builtin; refine wpList_append_own _ rfl _ _ 92 rfl W.heap.size 3 i0 (.int .i64 0) 1 8 Try.underlying92 hi hz0 hz1 hz2 rfl (by decide) _ _ _ rfl (O.out.alloc _) ⟨w3.heap.size, 0, none⟩ 1 1 [.int .i64 f] rfl rfl ?c1 ?c2 ?c3 ?c4 ?c5 ?_)
              case c1 =>
                intro j q hj
                match j, hj with
                | 0, hj => simp at hj; subst hj; simp [Addr.add]
              case c2 => intro q hq; simp at hq; subst hq; rfl
              case c3 => unfold maxLen; omega
              case c4 => omega
              case c5 => have := hb.size; simp; omega
              · intro v' w5 hown' hgrow _
                have hb5 : Below W.heap.size W w5 := (hb.alloc hb.size _).grown hgrow (by have := hb.size; simp; omega) (fun q hq => (O.out.lt q hq).1)
                obtain ⟨g, cap', rfl, _, _⟩ := hown'.form (by omega)
                have O5 := Aid.hid hown'
                clear hb hgrow O hown'
                go_wp2_with fail
                go_roundw
                case rel => exact ⟨j + 1, some ⟨g, 0, none⟩, cap', l2 ++ [f], by go_num, by omega, by simp, Aid.hid (by rw [TK2.out, EA.out]), Aid.hid (by rw [← EA.out]; exact FA3.out), Aid.hid (by simpa using O5.out), hb5⟩
                case measure => simp [intOf]; omega
            · have EA : Hid (Tb.addFace u l2 s = l2) := Aid.hid (by unfold Tb.addFace; rw [HF.out, if_neg (fun h => h.2 (of_decide_eq_true HR.out))])
              go_wp2_with fail
              go_roundw
              case rel => exact ⟨j + 1, A2, c2, l2, by go_num, by omega, rfl, Aid.hid (by rw [TK2.out, EA.out]), FA2, O, hb⟩
              case measure => simp [intOf]; omega
          · have EA : Hid (Tb.addFace u l2 s = l2) := Aid.hid (by unfold Tb.addFace; rw [HF.out, if_neg (fun h => hk1 (HK.out.symm.trans h.1))])
            have hk3 : (kf == 1) = false := by simpa using hk1
            go_wp2_with fail
            go_roundw
            case rel => exact ⟨j + 1, A2, c2, l2, by go_num, by omega, rfl, Aid.hid (by rw [TK2.out, EA.out]), FA2, O, hb⟩
            case measure => simp [intOf]; omega
        · have EE : Hid (l2 = (zs.take (k + 1)).foldl (fun l c => (Tb.facesOf u c).foldl (Tb.addFace u) l) []) := Aid.hid (by rw [TK.out, EL2.out, List.take_of_length_le (by omega)])
          go_wp2_with fail
          go_roundw
          case rel => exact ⟨k + 1, A2, c2, l2, by go_num, by omega, rfl, EE, FA2, O, hb⟩
          case measure => simp [intOf]; omega
    · have EE : Hid (l = Tb.faces u d0) := Aid.hid (by rw [EL.out, List.take_of_length_le (by omega)]; unfold Tb.faces; rw [HZ.out])
      go_wp2_with fail
      go_ret
      exact ⟨A', c', l, rfl, EE.out, by rw [hpb]; exact own_lower O.out hpW, BW.out.trans (hb.mono BW.out.size)⟩
theorem rfaces_is (u : List Dk) (a : Option Addr) (B cap : Nat) (d0 : Int) (zs : List Int) (w : World) (hz : Tb.faces u d0 = zs) (hu : UnitAt w B a u) (hB : B ≤ w.heap.size) :
    Calls Try.prog 71 #[.agg #[.slice a u.length cap], .int .i64 d0] w fun e w' => ∃ A c, e = .returned (.slice A zs.length c) ∧
      w'.ownsRow w.heap.size 3 1 (.slice A zs.length c) zs.length (zs.map (Value.int .i64)) ∧ Below w.heap.size w w' := by
  subst hz
  refine (rfaces_any u a B cap d0 w hu hB).mono ?_
  rintro e w' ⟨A, c, zs, rfl, rfl, h⟩
  exact ⟨A, c, rfl, h⟩
end Go.Proofs.Ytmhdcehpddbjaaa
/- The document's Is, Method, Fields, as walks. -/
namespace Go.Proofs.Ytmhdcehpddbjaaa
open Go.RowKit

theorem Tb.faces_none {u : List Dk} {d : Int} (h : Tb.kind u d ≠ 2) : Tb.faces u d = [] := by
  rw [List.eq_nil_iff_forall_not_mem]
  intro x hx
  obtain ⟨c, hc, _⟩ := Tb.mem_faces.1 hx
  rw [Tb.chain_none h] at hc; cases hc
theorem Tb.is_ref {u : List Dk} {x y : ByteArray} (h : Tb.kind u (Tb.find u x) = 2 ∨ Tb.kind u (Tb.find u x) = 1) :
    Tb.is u x y = ((x.toList == y.toList) || decide (Tb.find u y ∈ Tb.chain u (Tb.find u x)) || decide (Tb.find u y ∈ Tb.faces u (Tb.find u x))) := by
  unfold Tb.is
  by_cases h2 : Tb.kind u (Tb.find u x) = 2
  · by_cases hc : Tb.find u y ∈ Tb.chain u (Tb.find u x)
    · rw [if_pos ⟨h2, Or.inl hc⟩]; simp [hc]
    · by_cases hf : Tb.find u y ∈ Tb.faces u (Tb.find u x)
      · rw [if_pos ⟨h2, Or.inr hf⟩]; simp [hf]
      · rw [if_neg (fun h' => h'.2.elim hc hf), if_pos h]; simp [hc, hf]
  · rw [if_neg (fun h' => h2 h'.1), if_pos h, Tb.chain_none h2, Tb.faces_none h2]; simp

set_option maxRecDepth 100000 in
set_option maxHeartbeats 2000000 in
theorem ris_is (u : List Dk) (a : Option Addr) (B cap : Nat) (x y : ByteArray) (r : Bool) (w : World) (hr : Tb.is u x y = r) (hu : UnitAt w B a u) (hB : B ≤ w.heap.size) :
    Calls Try.prog 45 #[.agg #[.slice a u.length cap], .string x, .string y] w fun e w' => e = .returned (.bool r) ∧ Below w.heap.size w w' := by
  have sm := hu.small
  have hb1 : Below w.heap.size w (w.alloc (.cells #[.slice a u.length cap] 24)) := (Below.refl _ _).alloc (Nat.le_refl _) _
  have P0 : Aid.Has (w.alloc (.cells #[.slice a u.length cap] 24)) w.heap.size [.slice a u.length cap] 24 := Aid.Has.new _ _ _
  have HU := Aid.hid hu
  clear hu
  obtain ⟨fx, hfx⟩ : ∃ r, Tb.find u x = r := ⟨_, rfl⟩
  obtain ⟨fy, hfy⟩ : ∃ r, Tb.find u y = r := ⟨_, rfl⟩
  obtain ⟨ch, hch⟩ : ∃ r, Tb.chain u fx = r := ⟨_, rfl⟩
  obtain ⟨fs, hfs⟩ : ∃ r, Tb.faces u fx = r := ⟨_, rfl⟩
  obtain ⟨k, hk⟩ : ∃ r, Tb.kind u fx = r := ⟨_, rfl⟩
  have IR := Tb.is_ref (u := u) (x := x) (y := y)
  rw [hfx, hfy, hch, hfs, hk, hr] at IR
  have IT := Tb.is_thing (u := u) (x := x) (y := y)
  rw [hfx, hk, hr] at IT
  have IR := Aid.hid IR; have IT := Aid.hid IT
  have lc : ch.length ≤ 1000000000 := by have := Tb.chain_len u fx; rw [hch] at this; omega
  have lf : fs.length ≤ 1000000000 := by have := (Tb.faces_at u fx).len; rw [hfs] at this; omega
  have FX := Aid.hid hfx; have FY := Aid.hid hfy; have CH := Aid.hid hch; have FS := Aid.hid hfs; have HK := Aid.hid hk
  clear hr hfx hfy hch hfs hk
  go_enter Try.func45, Try.ntmps45
  try simp only [List.append_eq, List.cons_append, List.nil_append]
  go_wp2_with fail
  obtain ⟨pb, hpb⟩ : ∃ pb, w.heap.size = pb := ⟨_, rfl⟩
  generalize (w.alloc (.cells #[.slice a u.length cap] 24)) = W at *
  rw [hpb] at P0 ⊢
  have hpl := P0.lt
  have PC := Aid.hid (P0.cell 0 _ rfl)
  have HU1 := Aid.hid (HU.out.below hb1 hB)
  have hBW : B ≤ W.heap.size := Nat.le_trans hB hb1.size
  have BW := Aid.hid hb1
  have HPB := Aid.hid hpb
  have hb : Below W.heap.size W W := Below.refl _ _
  have cp := PC.out
  clear P0 hb1 hpb
  refine (rfind_is u a B cap x fx _ FX.out (HU1.out.below hb hBW) (Nat.le_trans hBW hb.size)).mono ?_; rintro e w2 ⟨rfl, hb2⟩
  replace hb := hb.trans (hb2.mono hb.size)
  clear hb2 cp
  have cp := (hb.cell (p := ⟨pb, 0, none⟩) hpl).trans PC.out
  go_wp2_with fail
  refine (rkind_is u a B cap fx k _ HK.out (HU1.out.below hb hBW) (Nat.le_trans hBW hb.size)).mono ?_; rintro e w3 ⟨rfl, hb3⟩
  replace hb := hb.trans (hb3.mono hb.size)
  clear hb3 cp
  have cp := (hb.cell (p := ⟨pb, 0, none⟩) hpl).trans PC.out
  have key : ((k != 2) = true ∧ (k != 1) = true ∧ Hid (r = false)) ∨ (((k != 2) = false ∨ ((k != 2) = true ∧ (k != 1) = false)) ∧ Hid (r = ((x.toList == y.toList) || decide (fy ∈ ch) || decide (fy ∈ fs)))) := by
    by_cases h2 : k = 2
    · exact Or.inr ⟨Or.inl (by simp [h2]), Aid.hid (IR.out (Or.inl h2))⟩
    · by_cases h1 : k = 1
      · exact Or.inr ⟨Or.inr ⟨by simp [h2], by simp [h1]⟩, Aid.hid (IR.out (Or.inr h1))⟩
      · exact Or.inl ⟨by simp [h2], by simp [h1], Aid.hid (IT.out (by simp [h1, h2]))⟩
  clear IR IT
  rcases key with ⟨n2, n1, E⟩ | ⟨hkk, E⟩
  · go_wp2_with fail
    go_ret
    exact ⟨by rw [E.out]; rfl, BW.out.trans (hb.mono BW.out.size)⟩
  · rcases hkk with n2 | ⟨n2, n1⟩
    all_goals
      go_wp2_with fail
      refine (rfind_is u a B cap y fy _ FY.out (HU1.out.below hb hBW) (Nat.le_trans hBW hb.size)).mono ?_; rintro e w4 ⟨rfl, hb4⟩
      replace hb := hb.trans (hb4.mono hb.size)
      clear hb4 cp
      have cp := (hb.cell (p := ⟨pb, 0, none⟩) hpl).trans PC.out
      cases hxy : (x.toList == y.toList)
      · rw [hxy] at E
        obtain ⟨r1, hr1⟩ : ∃ r, decide (fy ∈ ch) = r := ⟨_, rfl⟩
        have HR1 := Aid.hid hr1
        rw [hr1] at E
        clear hr1
        go_wp2_with fail
        refine (rchain_is u a B cap fx ch _ CH.out (HU1.out.below hb hBW) (Nat.le_trans hBW hb.size)).mono ?_; rintro e w5 ⟨A5, c5, rfl, ow, hb5⟩
        replace hb := hb.trans (hb5.mono hb.size)
        clear hb5 cp
        have cp := (hb.cell (p := ⟨pb, 0, none⟩) hpl).trans PC.out
        have I5 := Aid.hid (IntsAt.of_own ow)
        clear ow
        go_wp2_with fail
        refine (rhas_is A5 c5 _ ch fy r1 _ HR1.out I5.out lc).mono ?_; rintro e w6 ⟨rfl, rfl⟩
        cases r1
        · obtain ⟨r2, hr2⟩ : ∃ r, decide (fy ∈ fs) = r := ⟨_, rfl⟩
          have HR2 := Aid.hid hr2
          rw [hr2] at E
          clear hr2
          go_wp2_with fail
          refine (rfaces_is u a B cap fx fs _ FS.out (HU1.out.below hb hBW) (Nat.le_trans hBW hb.size)).mono ?_; rintro e w7 ⟨A7, c7, rfl, ow, hb7⟩
          replace hb := hb.trans (hb7.mono hb.size)
          clear hb7 cp
          have cp := (hb.cell (p := ⟨pb, 0, none⟩) hpl).trans PC.out
          have I7 := Aid.hid (IntsAt.of_own ow)
          clear ow
          go_wp2_with fail
          refine (rhas_is A7 c7 _ fs fy r2 _ HR2.out I7.out lf).mono ?_; rintro e w8 ⟨rfl, rfl⟩
          cases r2
          all_goals
            go_wp2_with fail
            go_ret
            exact ⟨by rw [E.out]; rfl, BW.out.trans (hb.mono BW.out.size)⟩
        · have E2 : Hid (r = true) := Aid.hid (by rw [E.out]; simp)
          go_wp2_with fail
          go_ret
          exact ⟨by rw [E2.out]; rfl, BW.out.trans (hb.mono BW.out.size)⟩
      · have E2 : Hid (r = true) := Aid.hid (by rw [E.out, hxy]; simp)
        go_wp2_with fail
        go_ret
        exact ⟨by rw [E2.out]; rfl, BW.out.trans (hb.mono BW.out.size)⟩

set_option maxRecDepth 100000 in
set_option maxHeartbeats 4000000 in
theorem rmethod_is (u : List Dk) (a : Option Addr) (B cap : Nat) (d : Int) (s : ByteArray) (RD RM : Int) (RK : Bool) (w : World) (hr : Tb.method u d s = (RD, RM, RK)) (hu : UnitAt w B a u) (hB : B ≤ w.heap.size) :
    Calls Try.prog 59 #[.agg #[.slice a u.length cap], .int .i64 d, .string s] w fun e w' => e = .returned (.tuple #[.agg #[.int .i64 RD, .int .i64 RM], .bool RK]) ∧ Below w.heap.size w w' := by
  have HU := Aid.hid hu
  have sm := hu.small
  clear hu
  obtain ⟨kd, hkd⟩ : ∃ r, Tb.kind u d = r := ⟨_, rfl⟩
  obtain ⟨ch, hch⟩ : ∃ r, Tb.chain u d = r := ⟨_, rfl⟩
  have MR0 : Hid (Tb.methodIn u s (if kd = 1 then [d] else ch) = (RD, RM, RK)) := Aid.hid (by rw [← hr, Tb.method, hkd, hch])
  have KD := Aid.hid hkd; have CH := Aid.hid hch
  have lc : ch.length ≤ 1000000000 := by have := Tb.chain_len u d; rw [hch] at this; omega
  clear hkd hch hr
  have hb1 : Below w.heap.size w ((w.alloc (.cells #[.slice a u.length cap] 24)).alloc (.cells #[.int .i64 0, .int .i64 0] 26)) := ((Below.refl _ _).alloc (Nat.le_refl _) _).alloc (by simp) _
  have P0 : Aid.Has ((w.alloc (.cells #[.slice a u.length cap] 24)).alloc (.cells #[.int .i64 0, .int .i64 0] 26)) w.heap.size [.slice a u.length cap] 24 := (Aid.Has.new _ _ _).alloc _
  have P2 : Aid.Has ((w.alloc (.cells #[.slice a u.length cap] 24)).alloc (.cells #[.int .i64 0, .int .i64 0] 26)) (w.heap.size + 1) [.int .i64 0, .int .i64 0] 26 := by
    have e : (w.alloc (.cells #[.slice a u.length cap] 24)).heap.size = w.heap.size + 1 := by simp
    rw [← e]; exact Aid.Has.new _ _ _
  go_enter Try.func59, Try.ntmps59
  try simp only [List.append_eq, List.cons_append, List.nil_append]
  go_wp2_with fail
  obtain ⟨pb, hpb⟩ : ∃ pb, w.heap.size = pb := ⟨_, rfl⟩
  generalize ((w.alloc (.cells #[.slice a u.length cap] 24)).alloc (.cells #[.int .i64 0, .int .i64 0] 26)) = W at *
  rw [hpb] at P0 P2 ⊢
  have hpl := P0.lt
  have PC := Aid.hid (P0.cell 0 _ rfl)
  have PW := Aid.hid P2
  have HU1 := Aid.hid (HU.out.below hb1 hB)
  have hBW : B ≤ W.heap.size := Nat.le_trans hB hb1.size
  have BW := Aid.hid hb1
  have hb : Below W.heap.size W W := Below.refl _ _
  clear P0 P2 hb1
  refine (rchain_is u a B cap d ch _ CH.out (HU1.out.below hb hBW) (Nat.le_trans hBW hb.size)).mono ?_; rintro e w4 ⟨A, c, rfl, ow, hb4⟩
  replace hb := hb.trans (hb4.mono hb.size)
  clear hb4
  have cp := (hb.cell (p := ⟨pb, 0, none⟩) hpl).trans PC.out
  have I1 := Aid.hid (IntsAt.of_own ow)
  clear ow
  go_wp2_with fail
  refine (rkind_is u a B cap d kd _ KD.out (HU1.out.below hb hBW) (Nat.le_trans hBW hb.size)).mono ?_; rintro e w5 ⟨rfl, hb5⟩
  by_cases hk1 : kd = 1
  · subst hk1
    replace hb := (hb.trans (hb5.mono hb.size)).alloc (hb.trans (hb5.mono hb.size)).size (.cells #[.int .i64 d] 3)
    clear hb5 cp I1
    obtain ⟨zs, hzs⟩ : ∃ zs, [d] = zs := ⟨_, rfl⟩
    have MR : Hid (Tb.methodIn u s zs = (RD, RM, RK)) := Aid.hid (by have h := MR0.out; rw [← hzs]; simpa using h)
    have ZIN : Hid (∀ z ∈ zs, ∃ (i : Nat) (x : Dk), z = i ∧ u[i]? = some x ∧ i < u.length) := Aid.hid (fun z hz => by
      rw [← hzs] at hz
      obtain rfl : z = d := by simpa using hz
      obtain ⟨i, x, e, hx, _, hi⟩ := Tb.kind_in KD.out (by decide)
      exact ⟨i, x, e, hx, hi⟩)
    have IZ : Hid (IntsAt (w5.alloc (.cells #[.int .i64 d] 3)) (w5.alloc (.cells #[.int .i64 d] 3)).heap.size (some ⟨w5.heap.size, 0, none⟩) zs) := Aid.hid (by
      rw [← hzs]
      have h := Aid.Has.new w5 [.int .i64 d] 3
      refine ⟨rfl, fun _ => ⟨_, rfl, by simp, fun j u hj => ?_⟩⟩
      match j, hj with
      | 0, hj => cases hj; exact h.cell 0 _ rfl)
    have hzl : zs.length = 1 := by rw [← hzs]; rfl
    have ZL := Aid.hid hzl
    clear hzs hzl MR0
    have BT := Aid.hid (BW.out.trans (hb.mono BW.out.size))
    have HU2 := Aid.hid (HU1.out.below hb hBW)
    have hB2 := Nat.le_trans hBW hb.size
    have PC2 := Aid.hid ((hb.cell (p := ⟨pb, 0, none⟩) hpl).trans PC.out)
    have PW2 := Aid.hid (PW.out.below hb PW.out.lt)
    have hl1 := Nat.lt_of_lt_of_le hpl hb.size
    have hl3 := PW2.out.lt
    clear hb
    go_wp2_with fail
    have zl := ZL.out; generalize (some (⟨w5.heap.size, 0, none⟩ : Addr)) = AZ at *
    generalize w5.alloc (.cells #[.int .i64 d] 3) = W2 at *
    go_loopw [9] (fun vi wr => ∃ k : Nat, vi = .int .i64 k ∧ k ≤ zs.length ∧ Hid (Tb.methodIn u s (zs.drop k) = (RD, RM, RK)) ∧ Below W2.heap.size W2 wr) (fun vi _ => zs.length - (intOf vi).toNat)
    case atStart => exact ⟨0, rfl, Nat.zero_le _, Aid.hid (by simpa using MR.out), Below.refl _ _⟩
    case round =>
      obtain ⟨k, rfl, hk, MK, hb⟩ := hrel
      by_cases hlt : k < zs.length
      · obtain ⟨ad, rfl, _, hc⟩ := IntsAt.at_ (show IntsAt _ _ _ _ from Reads.below IZ.out hb) hlt
        obtain ⟨z, hz⟩ : ∃ z, zs[k]? = some z := ⟨_, List.getElem?_eq_getElem hlt⟩
        have cz := hc k z hz
        obtain ⟨i, x, rfl, hx, hil⟩ := ZIN.out z (List.mem_of_getElem? hz)
        have DR : Hid (zs.drop k = (i : Int) :: zs.drop (k + 1)) := Aid.hid (by rw [List.drop_eq_getElem_cons hlt]; congr 1; exact (List.getElem?_eq_some_iff.1 hz).2)
        have EM : Hid (Tb.msOf u i = x.ms) := Aid.hid (by unfold Tb.msOf; simp [hx])
        have cp := (hb.cell (p := ⟨pb, 0, none⟩) hl1).trans PC2.out
        have HU3 := HU2.out.below hb hB2
        have HXD := Aid.hid (HU3.decls x (List.mem_of_getElem? hx))
        obtain ⟨b, off, rfl, _, hcu⟩ := HU3.at_ (by omega)
        have cm0 := hcu i x hx 0 _ rfl
        have cm1 := hcu i x hx 1 _ rfl
        have cm2 := hcu i x hx 2 _ rfl
        have cm3 := hcu i x hx 3 _ rfl
        have cm4 := hcu i x hx 4 _ rfl
        have cm5 := hcu i x hx 5 _ rfl
        have cm6 := hcu i x hx 6 _ rfl
        have cm7 := hcu i x hx 7 _ rfl
        have cm8 := hcu i x hx 8 _ rfl
        have cm9 := hcu i x hx 9 _ rfl
        have cm10 := hcu i x hx 10 _ rfl
        simp only [Nat.add_zero] at cm0
        have HZ := Aid.hid hz
        obtain ⟨q, hq⟩ : ∃ q, Tb.mindex x.ms s = q := ⟨_, rfl⟩
        have HQ := Aid.hid hq
        clear hc hcu HU3 hz hx hq
        go_wp2_with fail
        go_still_tail 9, (by kernel_rfl)
        change wpList _ _ _ _ _ wr.drew
        replace HXD : Hid (DkAt wr.drew B x) := Aid.hid (HXD.out.below (Below.refl wr.heap.size wr).drew (Nat.le_trans hB2 hb.size))
        replace hb := hb.drew
        clear cz cp cm0 cm1 cm2 cm3 cm4 cm5 cm6 cm7 cm8 cm9 cm10
        generalize wr.drew = wt at HXD hb ⊢
        go_wp2_with fail
        refine (rown_is x B s q _ HQ.out HXD.out (Nat.le_trans hB2 hb.size)).mono ?_; rintro e w9 ⟨rfl, hb9⟩
        replace hb := hb.trans (hb9.mono hb.size)
        clear hb9
        by_cases hq0 : 0 ≤ q
        · have E : Hid ((i : Int) = RD ∧ q = RM ∧ true = RK) := Aid.hid (by
            have h := MK.out
            rw [DR.out, Tb.methodIn, EM.out, HQ.out, if_pos hq0] at h
            simpa using h)
          obtain ⟨ad', had, _, hc9⟩ := IntsAt.at_ (show IntsAt _ _ _ _ from Reads.below IZ.out hb) hlt
          obtain rfl : ad = ad' := by simpa using had
          have cz9 := hc9 k _ HZ.out
          clear hc9 had
          have hp9 := PW2.out.below hb hl3
          have cw0 := hp9.cell 0 _ rfl
          have cw1 := hp9.cell 1 _ rfl
          have cwf := hp9.frozen
          have hpl9 := hp9.lt
          have hm1 := (hp9.set 0 (.int .i64 i)).set 1 (.int .i64 q)
          have cv0 := hm1.cell 0 _ rfl
          have cv1 := hm1.cell 1 _ rfl
          obtain ⟨rfl, rfl, rfl⟩ := E.out
          go_wp2_with fail
          refine bodyPost_ret (v := .tuple #[.agg #[.int .i64 i, .int .i64 q], .bool true]) (by simp [results, Try.results59, go_sem, cv0, cv1]) rfl ⟨rfl, ?_⟩
          have FB : Below w.heap.size w ((w9.setCell ⟨pb + 1, 0, none⟩ (.int .i64 i)).setCell ⟨pb + 1, 1, none⟩ (.int .i64 q)) := ((BT.out.trans (hb.mono BT.out.size)).setCell (by simp; omega) _).setCell (by simp; omega) _
          first | exact FB | exact hpb ▸ FB
        · have NX : Hid (Tb.methodIn u s (zs.drop (k + 1)) = (RD, RM, RK)) := Aid.hid (by
            have h := MK.out
            rw [DR.out, Tb.methodIn, EM.out, HQ.out, if_neg hq0] at h
            exact h)
          have hq1 : decide (0 ≤ q) = false := by simpa using hq0
          go_wp2_with fail
          go_roundw
          case rel => exact ⟨k + 1, by go_num, by omega, NX, hb⟩
          case measure => simp [intOf]; omega
      · have E : Hid ((0 : Int) = RD ∧ (0 : Int) = RM ∧ false = RK) := Aid.hid (by
          have h := MK.out
          rw [List.drop_eq_nil_of_le (by omega), Tb.methodIn] at h
          simpa using h)
        have hp9 := PW2.out.below hb hl3
        have cw0 := hp9.cell 0 _ rfl
        have cw1 := hp9.cell 1 _ rfl
        have cwf := hp9.frozen
        have hpl9 := hp9.lt
        have hm1 := (hp9.set 0 (.int .i64 0)).set 1 (.int .i64 0)
        have cv0 := hm1.cell 0 _ rfl
        have cv1 := hm1.cell 1 _ rfl
        obtain ⟨rfl, rfl, rfl⟩ := E.out
        go_wp2_with fail
        refine bodyPost_ret (v := .tuple #[.agg #[.int .i64 0, .int .i64 0], .bool false]) (by simp [results, Try.results59, go_sem, cv0, cv1]) rfl ⟨rfl, ?_⟩
        have FB : Below w.heap.size w ((wr.setCell ⟨pb + 1, 0, none⟩ (.int .i64 0)).setCell ⟨pb + 1, 1, none⟩ (.int .i64 0)) := ((BT.out.trans (hb.mono BT.out.size)).setCell (by simp; omega) _).setCell (by simp; omega) _
        first | exact FB | exact hpb ▸ FB
  · replace hb := hb.trans (hb5.mono hb.size)
    obtain ⟨zs, hzs⟩ : ∃ zs, ch = zs := ⟨_, rfl⟩
    have MR : Hid (Tb.methodIn u s zs = (RD, RM, RK)) := Aid.hid (by have h := MR0.out; rw [← hzs]; simpa [hk1] using h)
    have ZIN : Hid (∀ z ∈ zs, ∃ (i : Nat) (x : Dk), z = i ∧ u[i]? = some x ∧ i < u.length) := Aid.hid (fun z hz => by
      rw [← hzs] at hz
      obtain ⟨i, x, e, hx, _, hi⟩ := Tb.kind_in (Tb.chain_in u d z (by rw [CH.out]; exact hz)).2.2 (by decide)
      exact ⟨i, x, e, hx, hi⟩)
    have IZ : Hid (IntsAt w5 w5.heap.size A zs) := Aid.hid (by rw [← hzs]; exact Reads.more (Reads.below I1.out hb5) hb5.size)
    have hk2 : (kd == 1) = false := by simpa using hk1
    rw [hzs] at lc ⊢
    clear hb5 cp I1 MR0 hzs
    have BT := Aid.hid (BW.out.trans (hb.mono BW.out.size))
    have HU2 := Aid.hid (HU1.out.below hb hBW)
    have hB2 := Nat.le_trans hBW hb.size
    have PC2 := Aid.hid ((hb.cell (p := ⟨pb, 0, none⟩) hpl).trans PC.out)
    have PW2 := Aid.hid (PW.out.below hb PW.out.lt)
    have hl1 := Nat.lt_of_lt_of_le hpl hb.size
    have hl3 := PW2.out.lt
    clear hb
    go_wp2_with fail
    skip
    generalize w5 = W2 at *
    go_loopw [9] (fun vi wr => ∃ k : Nat, vi = .int .i64 k ∧ k ≤ zs.length ∧ Hid (Tb.methodIn u s (zs.drop k) = (RD, RM, RK)) ∧ Below W2.heap.size W2 wr) (fun vi _ => zs.length - (intOf vi).toNat)
    case atStart => exact ⟨0, rfl, Nat.zero_le _, Aid.hid (by simpa using MR.out), Below.refl _ _⟩
    case round =>
      obtain ⟨k, rfl, hk, MK, hb⟩ := hrel
      by_cases hlt : k < zs.length
      · obtain ⟨ad, rfl, _, hc⟩ := IntsAt.at_ (show IntsAt _ _ _ _ from Reads.below IZ.out hb) hlt
        obtain ⟨z, hz⟩ : ∃ z, zs[k]? = some z := ⟨_, List.getElem?_eq_getElem hlt⟩
        have cz := hc k z hz
        obtain ⟨i, x, rfl, hx, hil⟩ := ZIN.out z (List.mem_of_getElem? hz)
        have DR : Hid (zs.drop k = (i : Int) :: zs.drop (k + 1)) := Aid.hid (by rw [List.drop_eq_getElem_cons hlt]; congr 1; exact (List.getElem?_eq_some_iff.1 hz).2)
        have EM : Hid (Tb.msOf u i = x.ms) := Aid.hid (by unfold Tb.msOf; simp [hx])
        have cp := (hb.cell (p := ⟨pb, 0, none⟩) hl1).trans PC2.out
        have HU3 := HU2.out.below hb hB2
        have HXD := Aid.hid (HU3.decls x (List.mem_of_getElem? hx))
        obtain ⟨b, off, rfl, _, hcu⟩ := HU3.at_ (by omega)
        have cm0 := hcu i x hx 0 _ rfl
        have cm1 := hcu i x hx 1 _ rfl
        have cm2 := hcu i x hx 2 _ rfl
        have cm3 := hcu i x hx 3 _ rfl
        have cm4 := hcu i x hx 4 _ rfl
        have cm5 := hcu i x hx 5 _ rfl
        have cm6 := hcu i x hx 6 _ rfl
        have cm7 := hcu i x hx 7 _ rfl
        have cm8 := hcu i x hx 8 _ rfl
        have cm9 := hcu i x hx 9 _ rfl
        have cm10 := hcu i x hx 10 _ rfl
        simp only [Nat.add_zero] at cm0
        have HZ := Aid.hid hz
        obtain ⟨q, hq⟩ : ∃ q, Tb.mindex x.ms s = q := ⟨_, rfl⟩
        have HQ := Aid.hid hq
        clear hc hcu HU3 hz hx hq
        go_wp2_with fail
        go_still_tail 9, (by kernel_rfl)
        change wpList _ _ _ _ _ wr.drew
        replace HXD : Hid (DkAt wr.drew B x) := Aid.hid (HXD.out.below (Below.refl wr.heap.size wr).drew (Nat.le_trans hB2 hb.size))
        replace hb := hb.drew
        clear cz cp cm0 cm1 cm2 cm3 cm4 cm5 cm6 cm7 cm8 cm9 cm10
        generalize wr.drew = wt at HXD hb ⊢
        go_wp2_with fail
        refine (rown_is x B s q _ HQ.out HXD.out (Nat.le_trans hB2 hb.size)).mono ?_; rintro e w9 ⟨rfl, hb9⟩
        replace hb := hb.trans (hb9.mono hb.size)
        clear hb9
        by_cases hq0 : 0 ≤ q
        · have E : Hid ((i : Int) = RD ∧ q = RM ∧ true = RK) := Aid.hid (by
            have h := MK.out
            rw [DR.out, Tb.methodIn, EM.out, HQ.out, if_pos hq0] at h
            simpa using h)
          obtain ⟨ad', had, _, hc9⟩ := IntsAt.at_ (show IntsAt _ _ _ _ from Reads.below IZ.out hb) hlt
          obtain rfl : ad = ad' := by simpa using had
          have cz9 := hc9 k _ HZ.out
          clear hc9 had
          have hp9 := PW2.out.below hb hl3
          have cw0 := hp9.cell 0 _ rfl
          have cw1 := hp9.cell 1 _ rfl
          have cwf := hp9.frozen
          have hpl9 := hp9.lt
          have hm1 := (hp9.set 0 (.int .i64 i)).set 1 (.int .i64 q)
          have cv0 := hm1.cell 0 _ rfl
          have cv1 := hm1.cell 1 _ rfl
          obtain ⟨rfl, rfl, rfl⟩ := E.out
          go_wp2_with fail
          refine bodyPost_ret (v := .tuple #[.agg #[.int .i64 i, .int .i64 q], .bool true]) (by simp [results, Try.results59, go_sem, cv0, cv1]) rfl ⟨rfl, ?_⟩
          have FB : Below w.heap.size w ((w9.setCell ⟨pb + 1, 0, none⟩ (.int .i64 i)).setCell ⟨pb + 1, 1, none⟩ (.int .i64 q)) := ((BT.out.trans (hb.mono BT.out.size)).setCell (by simp; omega) _).setCell (by simp; omega) _
          first | exact FB | exact hpb ▸ FB
        · have NX : Hid (Tb.methodIn u s (zs.drop (k + 1)) = (RD, RM, RK)) := Aid.hid (by
            have h := MK.out
            rw [DR.out, Tb.methodIn, EM.out, HQ.out, if_neg hq0] at h
            exact h)
          have hq1 : decide (0 ≤ q) = false := by simpa using hq0
          go_wp2_with fail
          go_roundw
          case rel => exact ⟨k + 1, by go_num, by omega, NX, hb⟩
          case measure => simp [intOf]; omega
      · have E : Hid ((0 : Int) = RD ∧ (0 : Int) = RM ∧ false = RK) := Aid.hid (by
          have h := MK.out
          rw [List.drop_eq_nil_of_le (by omega), Tb.methodIn] at h
          simpa using h)
        have hp9 := PW2.out.below hb hl3
        have cw0 := hp9.cell 0 _ rfl
        have cw1 := hp9.cell 1 _ rfl
        have cwf := hp9.frozen
        have hpl9 := hp9.lt
        have hm1 := (hp9.set 0 (.int .i64 0)).set 1 (.int .i64 0)
        have cv0 := hm1.cell 0 _ rfl
        have cv1 := hm1.cell 1 _ rfl
        obtain ⟨rfl, rfl, rfl⟩ := E.out
        go_wp2_with fail
        refine bodyPost_ret (v := .tuple #[.agg #[.int .i64 0, .int .i64 0], .bool false]) (by simp [results, Try.results59, go_sem, cv0, cv1]) rfl ⟨rfl, ?_⟩
        have FB : Below w.heap.size w ((wr.setCell ⟨pb + 1, 0, none⟩ (.int .i64 0)).setCell ⟨pb + 1, 1, none⟩ (.int .i64 0)) := ((BT.out.trans (hb.mono BT.out.size)).setCell (by simp; omega) _).setCell (by simp; omega) _
        first | exact FB | exact hpb ▸ FB

theorem Tb.fields_ref (u : List Dk) (d : Int) (h : Tb.kind u d ≠ 3) : Tb.fields u d = ((Tb.chain u d).reverse.map (Tb.varsOf u)).flatten := by
  unfold Tb.fields
  by_cases h2 : Tb.kind u d = 2
  · rw [if_pos h2]
  · rw [if_neg h2, if_neg h, Tb.chain_none h2]; rfl
def backFrom (u : List Dk) (ch : List Int) (k : Nat) : List Vd := ((ch.drop k).reverse.map (Tb.varsOf u)).flatten
theorem backFrom_step (u : List Dk) (ch : List Int) (k : Nat) (z : Int) (h : ch[k]? = some z) : backFrom u ch k = backFrom u ch (k + 1) ++ Tb.varsOf u z := by
  obtain ⟨hk, hz⟩ := List.getElem?_eq_some_iff.1 h
  unfold backFrom
  rw [List.drop_eq_getElem_cons hk, hz]; simp
theorem backFrom_len (u : List Dk) (ch : List Int) (k M : Nat) (hM : ∀ x ∈ u, x.vs.length ≤ M) : (backFrom u ch k).length ≤ (ch.length - k) * M := by
  refine Nat.le_trans (Tb.flat_len _ M _ fun c _ => Tb.varsOf_len hM c) ?_
  simp

set_option maxRecDepth 100000 in
set_option maxHeartbeats 4000000 in
theorem rfields_is (u : List Dk) (a : Option Addr) (B cap : Nat) (d : Int) (zs : List Vd) (w : World) (hz : Tb.fields u d = zs) (hu : UnitAt w B a u) (hB : B ≤ w.heap.size) (hn : u.length ≤ 20) (hM : ∀ x ∈ u, x.vs.length ≤ 1048576) :
    Calls Try.prog 43 #[.agg #[.slice a u.length cap], .int .i64 d] w fun e w' => ∃ A c, e = .returned (.slice A zs.length c) ∧
      w'.ownsRow w.heap.size 74 8 (.slice A zs.length c) zs.length (VC zs) ∧ Below w.heap.size w w' := by
  obtain ⟨i0, hi, hz0, hz1, hz2⟩ := info_parts info_var
  have HM := Aid.hid hM
  have HF := Aid.hid hz
  clear hM hz
  have sm := hu.small
  have hb1 : Below w.heap.size w (w.alloc (.cells #[.slice a u.length cap] 24)) := (Below.refl _ _).alloc (Nat.le_refl _) _
  have P0 : Aid.Has (w.alloc (.cells #[.slice a u.length cap] 24)) w.heap.size [.slice a u.length cap] 24 := Aid.Has.new _ _ _
  have HU := Aid.hid hu
  clear hu
  obtain ⟨k, hk⟩ : ∃ r, Tb.kind u d = r := ⟨_, rfl⟩
  have HK := Aid.hid hk
  clear hk
  go_enter Try.func43, Try.ntmps43
  try simp only [List.append_eq, List.cons_append, List.nil_append]
  go_wp2_with fail
  obtain ⟨pb, hpb⟩ : ∃ pb, w.heap.size = pb := ⟨_, rfl⟩
  generalize (w.alloc (.cells #[.slice a u.length cap] 24)) = W at *
  rw [hpb] at P0 ⊢
  have hpl := P0.lt
  have PC := Aid.hid (P0.cell 0 _ rfl)
  have HU1 := Aid.hid (HU.out.below hb1 hB)
  have hBW : B ≤ W.heap.size := Nat.le_trans hB hb1.size
  have BW := Aid.hid hb1
  have HPB := Aid.hid hpb
  have hb : Below W.heap.size W W := Below.refl _ _
  have cp := PC.out
  clear P0 hb1 hpb
  refine (rkind_is u a B cap d k _ HK.out (HU1.out.below hb hBW) (Nat.le_trans hBW hb.size)).mono ?_; rintro e w2 ⟨rfl, hb2⟩
  replace hb := hb.trans (hb2.mono hb.size)
  clear hb2 cp
  have cp := (hb.cell (p := ⟨pb, 0, none⟩) hpl).trans PC.out
  by_cases hk3 : k = 3
  · subst hk3
    obtain ⟨i, dx, rfl, hdx, _, hil⟩ := Tb.kind_in HK.out (by decide)
    have hmem := List.mem_of_getElem? hdx
    have hux := HU1.out.below hb hBW
    have MV := HM.out dx hmem
    have RV : Reads w2 B 8 dx.vA dx.vs.length (VC dx.vs) := by
      have h := Rows.reads (Vd.len _) (hux.decls dx hmem).vars
      rwa [List.length_map] at h
    have FE : Hid (dx.vs = zs) := Aid.hid (by rw [← HF.out]; unfold Tb.fields; rw [HK.out, Tb.varsOf_at hdx]; rfl)
    obtain ⟨b, off, rfl, _, hcu⟩ := hux.at_ (by omega)
    have cvs := hcu i dx hdx 6 _ rfl
    clear hcu hux hdx hmem
    have hwb : w.heap.size ≤ w2.heap.size := Nat.le_trans BW.out.size hb.size
    go_wp2_with (at_builtin; refine wpList_append_any _ rfl _ _ 39 rfl w.heap.size 74 i0 (.agg #[.string ⟨#[]⟩, .int .i64 0, .int .i64 0, .int .i64 0, .string ⟨#[]⟩, .int .i64 0, .int .i64 0, .int .i64 0]) 8 80 Try.underlying39 hi hz0 hz1 hz2 rfl (by decide) _ _ _ rfl (World.ownsRow_nil _ _ _ _) B dx.vA dx.vs.length dx.vc _ rfl RV (Vd.one (l := dx.vs)) ?c1 ?c2 hwb ?_)
    case c1 => unfold maxLen; omega
    case c2 => omega
    · intro v' w5 hown' hgrow _
      (try simp only [Nat.zero_add, List.nil_append] at hown')
      obtain ⟨A5, c5, rfl⟩ := own_slice hown'
      have hb5 := (BW.out.trans (hb.mono BW.out.size)).grown hgrow hwb (fun q hq => by simp [Value.ownBlock] at hq)
      have HO := Aid.hid hown'
      rw [FE.out] at HO ⊢
      clear hown' hgrow
      go_wp2_with fail
      go_ret
      exact ⟨A5, c5, rfl, by rw [HPB.out] at HO; rw [HPB.out]; exact HO.out, hb5⟩
  · have k3 : (k == 3) = false := by simpa using hk3
    obtain ⟨ch, hch⟩ : ∃ r, Tb.chain u d = r := ⟨_, rfl⟩
    have CH := Aid.hid hch
    have lc : ch.length ≤ u.length := by have := Tb.chain_len u d; rw [hch] at this; exact this
    have HIN : Hid (∀ c ∈ ch, Tb.kind u c = 2) := Aid.hid (fun c hc => (Tb.chain_in u d c (by rw [hch]; exact hc)).2.2)
    have FE : Hid (backFrom u ch 0 = zs) := Aid.hid (by rw [← HF.out, Tb.fields_ref u d (by rw [HK.out]; exact hk3), hch]; rfl)
    clear hch
    go_wp2_with fail
    refine (rchain_is u a B cap d ch _ CH.out (HU1.out.below hb hBW) (Nat.le_trans hBW hb.size)).mono ?_; rintro e w3 ⟨A3, c3, rfl, ow, hb3⟩
    replace hb := hb.trans (hb3.mono hb.size)
    clear hb3 cp
    have cp := (hb.cell (p := ⟨pb, 0, none⟩) hpl).trans PC.out
    have I3 := Aid.hid (IntsAt.of_own ow)
    clear ow
    have lc2 : ch.length ≤ 1000000000 := by omega
    clear cp
    go_wp2_with fail
    have e0 : backFrom u ch ch.length = [] := by simp [backFrom]
    go_loopw [5, 7] (fun vl vi wr => ∃ (k : Nat) (A' : Option Addr) (c' : Nat), k ≤ ch.length ∧ vi = .int .i64 ((k : Int) - 1) ∧ vl = .slice A' (backFrom u ch k).length c' ∧
      Hid (wr.ownsRow w3.heap.size 74 8 (.slice A' (backFrom u ch k).length c') (backFrom u ch k).length (VC (backFrom u ch k))) ∧ Below w3.heap.size w3 wr) (fun _ vi _ => (intOf vi + 1).toNat)
    case atStart => exact ⟨ch.length, none, 0, Nat.le_refl _, by first | rfl | go_num, by rw [e0]; rfl, Aid.hid (by rw [e0]; exact World.ownsRow_nil _ _ _ _), Below.refl _ _⟩
    case round =>
      obtain ⟨k, A', c', hk, rfl, rfl, O, hbr⟩ := hrel
      rcases k with _ | k
      · have t0 : decide ((0 : Int) ≤ ((0 : Nat) : Int) - 1) = false := by decide
        have HB3 := hb.size
        have HBW := Aid.hid BW.out.size
        have FB : Below w.heap.size w wr := (BW.out.trans (hb.mono BW.out.size)).trans (hbr.mono (Nat.le_trans BW.out.size hb.size))
        rw [FE.out] at O ⊢
        have OL := Aid.hid (own_lowers O.out (Nat.le_trans BW.out.size hb.size))
        have HF := Aid.hid FB
        clear FB O
        go_wp2_with fail
        go_ret
        exact ⟨A', c', rfl, by first | exact OL.out | (rw [HPB.out] at OL; rw [HPB.out]; exact OL.out), HF.out⟩
      · have e1 : (((k + 1 : Nat) : Int) - 1) = (k : Int) := by omega
        rw [e1]
        have t0 : decide ((0 : Int) ≤ (k : Int)) = true := by simp
        have hlt : k < ch.length := by omega
        obtain ⟨z, hz⟩ : ∃ z, ch[k]? = some z := ⟨_, List.getElem?_eq_getElem hlt⟩
        obtain ⟨ad, rfl, _, hc⟩ := IntsAt.at_ (show IntsAt _ _ _ _ from Reads.below I3.out hbr) hlt
        have cz := hc k z hz
        obtain ⟨i, dx, rfl, hdx, _, hil⟩ := Tb.kind_in (HIN.out z (List.mem_of_getElem? hz)) (by decide)
        have BS : Hid (backFrom u ch k = backFrom u ch (k + 1) ++ dx.vs) := Aid.hid (by rw [backFrom_step u ch k _ hz, Tb.varsOf_at hdx])
        have hmem := List.mem_of_getElem? hdx
        have hbw := hb.trans (hbr.mono hb.size)
        have hux := HU1.out.below hbw hBW
        have MV := HM.out dx hmem
        have RV : Reads wr.drew B 8 dx.vA dx.vs.length (VC dx.vs) := by
          have h := Rows.reads (Vd.len _) (hux.decls dx hmem).vars
          rwa [List.length_map] at h
        have LB := backFrom_len u ch (k + 1) 1048576 HM.out
        have b0 : (backFrom u ch (k + 1)).length ≤ 30000000 := by
          have : (ch.length - (k + 1)) * 1048576 ≤ 20 * 1048576 := Nat.mul_le_mul_right _ (by omega)
          omega
        have b1 : (backFrom u ch (k + 1)).length + dx.vs.length ≤ maxLen := by unfold maxLen; omega
        have b2 : ((backFrom u ch (k + 1)).length + dx.vs.length) * 80 ≤ 140737488355328 := by omega
        have b3 : w3.heap.size ≤ wr.drew.heap.size := hbr.size
        have cp := (hbw.cell (p := ⟨pb, 0, none⟩) hpl).trans PC.out
        obtain ⟨b, off, rfl, _, hcu⟩ := hux.at_ (by omega)
        have cvs := hcu i dx hdx 6 _ rfl
        have O2 : wr.drew.ownsRow w3.heap.size 74 8 (.slice A' (backFrom u ch (k + 1)).length c') (backFrom u ch (k + 1)).length (VC (backFrom u ch (k + 1))) := O.out
        have hbr2 := hbr.drew
        clear hc hcu hux hdx hmem LB hz hbw O hbr
        go_wp2_with fail
        go_still_tail 10, (by kernel_rfl)
        change wpList _ _ _ _ _ wr.drew
        clear cz cp cvs
        generalize wr.drew = wt at O2 hbr2 RV b3 ⊢
        go_wp2_with (at_builtin; refine wpList_append_any _ rfl _ _ 39 rfl w3.heap.size 74 i0 (.agg #[.string ⟨#[]⟩, .int .i64 0, .int .i64 0, .int .i64 0, .string ⟨#[]⟩, .int .i64 0, .int .i64 0, .int .i64 0]) 8 80 Try.underlying39 hi hz0 hz1 hz2 rfl (by decide) _ _ _ rfl O2 B dx.vA dx.vs.length dx.vc _ rfl RV (Vd.one (l := dx.vs)) b1 b2 b3 ?_)
        intro v' w5 hown' hgrow _
        obtain ⟨A5, c5, rfl⟩ := own_slice hown'
        have hb5 := hbr2.grown hgrow b3 (fun q hq => (O2.lt q hq).1)
        have O5 : Hid (w5.ownsRow w3.heap.size 74 8 (.slice A5 (backFrom u ch k).length c5) (backFrom u ch k).length (VC (backFrom u ch k))) := Aid.hid (by rw [BS.out, List.length_append, VC_append]; exact hown')
        have E5 : Hid ((backFrom u ch (k + 1)).length + dx.vs.length = (backFrom u ch k).length) := Aid.hid (by rw [BS.out, List.length_append])
        clear hown' hgrow O2 hbr2
        go_wp2_with fail
        go_roundw
        case rel => exact ⟨k, A5, c5, by omega, by first | rfl | go_num, by rw [E5.out], O5, hb5⟩
        case measure => simp [intOf]
end Go.Proofs.Ytmhdcehpddbjaaa
