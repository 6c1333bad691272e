/- ImageLays, as a walk: its parts. -/
import Derived.Test.YtaogegeidbclaaaGreatDoorImgAwake
import Derived.Test.YtaogegeidbclaaaGreatDoorOrd
namespace Go.Proofs.YtaogegeidbclaaaGreatDoor
open Go.RowKit

theorem grown_trans {a b c : World} {r : Option Nat} (h : a.grownBy b r) (k : b.grownBy c r) : a.grownBy c r :=
  ⟨k.os.trans h.os, k.tape.trans h.tape, k.output.trans h.output, Nat.le_trans h.size k.size, fun i hi hr => (k.block i (Nat.lt_of_lt_of_le hi h.size) hr).trans (h.block i hi hr)⟩
theorem grown_alloc (a : World) (o : Obj) (r : Option Nat) : a.grownBy (a.alloc o) r := by
  have h := (Below.refl a.heap.size a).alloc (Nat.le_refl _) o
  exact ⟨h.os, h.tape, h.output, h.size, fun i hi _ => h.block i hi⟩
theorem own_grown {w w' : World} {B e s n : Nat} {v : Value} {xs : List Value} {r : Option Nat} (h : w.ownsRow B e s v n xs) (hg : w.grownBy w' r) (hr : ∀ g, v.ownBlock = some g → some g ≠ r) : w'.ownsRow B e s v n xs := by
  rcases h with ⟨h1, h2 | ⟨g, cap, cur, p1, p2, p3, p4⟩⟩
  · exact ⟨h1, Or.inl h2⟩
  · exact ⟨h1, Or.inr ⟨g, cap, cur, p1, p2, (hg.block g (Array.getElem?_eq_some_iff.1 p3).1 (hr g (by rw [p1]; rfl))).trans p3, p4⟩⟩
set_option maxRecDepth 100000 in
set_option maxHeartbeats 2000000 in
theorem overBytes_g (A : Option Addr) (c base n : Nat) (xs : List Value) (w : World) (hx : w.ownsRow base 5 1 (.slice A n c) n xs) (h1' : ∀ y ∈ xs, y.oneCell' = true) (lx : n ≤ 100000000000000) (hs : base ≤ w.heap.size) :
    Calls Tryz.prog 14 #[.slice A n c] w fun e w' => e = .returned (.tuple #[]) ∧ w.grownBy w' (rowb A) := by
  go_enter Tryz.func14, Tryz.ntmps14
  try simp only [List.append_eq, List.cons_append, List.nil_append]
  obtain ⟨i0, hi, hz0, hz1, hz2⟩ := info_parts info_byte
  have HB0 := Aid.hid (World.grownBy.refl w (rowb A))
  go_wp2_with fail
  go_loopw [2] (fun i wr => ∃ (k : Nat) (ys : List Value), i = .int .i64 k ∧ k ≤ n ∧ (∀ y ∈ ys, y.oneCell' = true) ∧ wr.ownsRow base 5 1 (.slice A n c) n ys ∧ Hid (w.grownBy wr (rowb A)) ∧ base ≤ wr.heap.size) (fun i _ => n - (intOf i).toNat)
  case atStart => exact ⟨0, _, rfl, Nat.zero_le _, h1', hx, HB0, hs⟩
  case round =>
    obtain ⟨k, ys, rfl, hk, h1, hown, hb, hsz⟩ := hrel
    clear hx HB0 hs h1'
    by_cases hlt : k < n
    · obtain ⟨g, cap, hv, hg, hgs⟩ := hown.form (by omega)
      obtain ⟨rfl, rfl⟩ : A = some ⟨g, 0, none⟩ ∧ c = cap := by simpa using hv
      have hl : ys.length = n * 1 := hown.1
      have hst := hown.stored k (.int .u8 238)
      have HB2 := Aid.hid (grown_trans hb.out hst.2)
      have hc0 := hown.cellAt k (by omega)
      have hf := hown.frozenAt
      obtain ⟨u, hu⟩ : ∃ u, ys[k]? = some u := ⟨_, List.getElem?_eq_getElem (by omega)⟩
      rw [hu] at hc0
      go_wp2_with fail
      go_roundw
      case rel => exact ⟨k + 1, _, by go_num, by omega, (fun y hy => by
        rcases List.mem_or_eq_of_mem_set hy with h | h
        · exact h1 y h
        · subst h; rfl), hst.1, HB2, by simpa [World.setCell] using hsz⟩
      case measure => simp [intOf]; omega
    · have hnew := Aid.Has.new wr [.int .u8 238] 5
      have hr : Reads (wr.alloc (.cells #[.int .u8 238] 5)) (wr.alloc (.cells #[.int .u8 238] 5)).heap.size 1 (some ⟨wr.heap.size, 0, none⟩) 1 [.int .u8 238] := ⟨by simp, fun _ => ⟨⟨wr.heap.size, 0, none⟩, rfl, by simp [World.size_alloc], fun j u hj => by
        rw [Go.WideShapes.add_plain, Nat.zero_add]; exact hnew.cell j u hj⟩⟩
      have hbs : base ≤ (wr.alloc (.cells #[.int .u8 238] 5)).heap.size := by simp; omega
      have HB1 := Aid.hid (grown_trans hb.out (grown_alloc wr (.cells #[.int .u8 238] 5) (rowb A)))
      go_wp2_with (at_builtin; refine wpList_append_any _ rfl _ _ 32 rfl base 5 i0 (.int .u8 0) 1 1 Tryz.underlying32 hi hz0 hz1 hz2 rfl (by decide) _ _ _ rfl (hown.alloc _) _ (some ⟨wr.heap.size, 0, none⟩) 1 1 [.int .u8 238] rfl hr ?d1 ?d2 ?d3 hbs ?_)
      case d1 => intro u hu; simp at hu; subst hu; rfl
      case d2 => unfold maxLen; omega
      case d3 => omega
      intro v9 w9 ho9 hg9 _
      rw [rowb_own] at hg9
      have HF := Aid.hid (grown_trans HB1.out hg9)
      clear HB1 hbs hr hnew hown hb ho9 hg9
      go_wp2_with fail
      go_end0
      exact ⟨rfl, HF.out⟩
/-- What laying x comes to, in both: the bytes, the code. -/
def Lays.bs (x : Img) : List Int := if (Pc.img x).x then [] else (Pc.img x).b
def Lays.code (x : Img) : Int := if (Pc.img x).x then 24 else 0
/-- An error that bears it. -/
def Lays.Err (x : Img) (w : World) (v : Value) : Prop := ((Pc.img x).x = true ∧ ∃ b, v = .iface 113 (.pointer (some ⟨b, 0, none⟩)) ∧ Wrong w b 24) ∨ ((Pc.img x).x = false ∧ v = .nilIface)
theorem Lays.of {X : Img} {B : Nat} {e : Ending} {w : World} (h : LaidP X B e w) : ∃ A c v, e = .returned (.tuple #[.slice A (Lays.bs X).length c, v]) ∧ w.ownsRow B 5 1 (.slice A (Lays.bs X).length c) (Lays.bs X).length ((Lays.bs X).map (Value.int .u8)) ∧ Lays.Err X w v := by
  rcases h with ⟨hx, b, rfl, _, hw⟩ | ⟨hx, A, c, rfl, ho⟩
  · have : Lays.bs X = [] := by unfold Lays.bs; rw [if_pos hx]
    rw [this]
    exact ⟨none, 0, _, rfl, ⟨rfl, Or.inl ⟨rfl, rfl⟩⟩, Or.inl ⟨hx, b, rfl, hw⟩⟩
  · have : Lays.bs X = (Pc.img X).b := by unfold Lays.bs; rw [hx]; rfl
    rw [this]
    exact ⟨A, c, _, rfl, ho, Or.inr ⟨hx, rfl⟩⟩
theorem Lays.ofR {X : Img} {B : Nat} {e : Ending} {w : World} (h : Laid X (.int .i64 24) (.int .i64 0) B e w) : ∃ A c, e = .returned (.tuple #[.slice A (Lays.bs X).length c, .int .i64 (Lays.code X)]) ∧ w.ownsRow B 5 1 (.slice A (Lays.bs X).length c) (Lays.bs X).length ((Lays.bs X).map (Value.int .u8)) := by
  rcases h with ⟨hx, rfl⟩ | ⟨hx, A, c, rfl, ho⟩
  · have : Lays.bs X = [] ∧ Lays.code X = 24 := by unfold Lays.bs Lays.code; rw [if_pos hx, if_pos hx]; exact ⟨rfl, rfl⟩
    rw [this.1, this.2]
    exact ⟨none, 0, rfl, ⟨rfl, Or.inl ⟨rfl, rfl⟩⟩⟩
  · have : Lays.bs X = (Pc.img X).b ∧ Lays.code X = 0 := by unfold Lays.bs Lays.code; rw [hx]; exact ⟨rfl, rfl⟩
    rw [this.1, this.2]
    exact ⟨A, c, rfl, ho⟩
theorem Lays.len {X : Img} (h : X.Small) : (Lays.bs X).length ≤ 100000000000000 := by
  unfold Lays.bs; split
  · simp
  · exact h.len
theorem Lays.codeIs {X : Img} {w w' : World} {v : Value} (h : Lays.Err X w v) (hb : Below w.heap.size w w') (hg : Door w') : Calls Tryz.prog 11 #[v] w' fun e w'' => e = .returned (.int .i64 (Lays.code X)) ∧ Below w'.heap.size w' w'' := by
  rcases h with ⟨hx, b, rfl, hw⟩ | ⟨hx, rfl⟩
  · have : Lays.code X = 24 := by unfold Lays.code; rw [if_pos hx]
    rw [this]
    exact code_is b 24 w' hg (Aid.Has.below hw hb (Aid.Has.lt hw))
  · have : Lays.code X = 0 := by unfold Lays.code; rw [hx]; rfl
    rw [this]
    exact (code_nil w').mono fun _ _ ⟨h1, h2⟩ => ⟨h1, h2 ▸ Below.refl _ _⟩
/-- An own row of bytes, as a list to read. -/
theorem bytes_of_own {w : World} {B c : Nat} {A : Option Addr} {bs : List Int} (h : w.ownsRow B 5 1 (.slice A bs.length c) bs.length (bs.map (Value.int .u8))) (hl : bs.length ≤ 100000000000000) : LBytes w w.heap.size A bs := by
  refine ⟨by show _ ≤ 9223372036854775807; omega, ?_⟩
  refine Rows.of_own (base := B) (e := 5) (c := c) (by intro r hr; obtain ⟨n, _, rfl⟩ := List.mem_map.1 hr; rfl) ?_
  rw [List.length_map]
  have : (bs.map fun n => [Value.int .u8 n]).flatten = bs.map (Value.int .u8) := by
    induction bs with
    | nil => rfl
    | cons a l ih =>
      simp only [List.map_cons, List.flatten_cons, List.singleton_append]
      congr 1
      clear h hl ih
      induction l with
      | nil => rfl
      | cons b l ih2 => simp only [List.map_cons, List.flatten_cons, List.singleton_append, ih2]
  rw [this]; exact h
theorem Lays.same {A C : Option Addr} {c d B B' : Nat} {bs : List Int} {w : World} (h : LBytes w B A bs) (k : LBytes w B' C bs) : Calls Tryz.prog 10 #[.slice A bs.length c, .slice C bs.length d] w fun e w' => e = .returned (.bool true) ∧ Below w.heap.size w w' :=
  (sBytes A C c d B B' bs bs w h k).mono fun _ _ ⟨h1, h2⟩ => ⟨h1.trans (by rw [eqAll_refl Int.eqb_refl]), drew_below h2⟩
end Go.Proofs.YtaogegeidbclaaaGreatDoor
