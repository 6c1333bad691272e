/- Find, as a walk. -/
import Derived.Test.YtmhdcehpddbjaaaTabSpec
import Derived.WalkSpells
import Derived.WalkLawsBesides
namespace Go.Proofs.Ytmhdcehpddbjaaa
open Go.RowKit

set_option maxRecDepth 100000 in
set_option maxHeartbeats 1000000 in
theorem find1_any (d : Dk) (p : Nat) (s : ByteArray) (w : World) (hp : w.cell? ⟨p, 0, none⟩ = some (.string s)) (hlt : p < w.heap.size) :
    Calls Try.prog 94 #[.agg #[.int .i64 d.kind, .string d.name, .string d.base, .slice d.fA d.faces.length d.fc, .bool d.abs, .bool d.fin, .slice d.vA d.vs.length d.vc, .slice d.mA d.ms.length d.mc, .slice d.bA d.body.length d.bc, .int .i64 d.every, .int .i64 d.first], .pointer (some ⟨p, 0, none⟩)] w fun e w' => e = .returned (.bool (d.name.toList == s.toList)) ∧ Below w.heap.size w w' := by
  go_enter Try.func94, Try.ntmps94
  go_wp2_with fail
  go_ret
  exact ⟨rfl, (Below.refl _ _).alloc (Nat.le_refl _) _⟩
theorem find1_is (d : Dk) (p : Nat) (s : ByteArray) (r : Bool) (w : World) (hr : (d.name.toList == s.toList) = r) (hp : w.cell? ⟨p, 0, none⟩ = some (.string s)) (hlt : p < w.heap.size) :
    Calls Try.prog 94 #[.agg #[.int .i64 d.kind, .string d.name, .string d.base, .slice d.fA d.faces.length d.fc, .bool d.abs, .bool d.fin, .slice d.vA d.vs.length d.vc, .slice d.mA d.ms.length d.mc, .slice d.bA d.body.length d.bc, .int .i64 d.every, .int .i64 d.first], .pointer (some ⟨p, 0, none⟩)] w fun e w' => e = .returned (.bool r) ∧ Below w.heap.size w w' := by
  rw [← hr]; exact find1_any d p s w hp hlt

set_option maxRecDepth 100000 in
set_option maxHeartbeats 2000000 in
theorem indexDecl_any (u : List Dk) (a : Option Addr) (B cap p : Nat) (s : ByteArray) (w : World) (hu : UnitAt w B a u) (hB : B ≤ w.heap.size) (hp : w.cell? ⟨p, 0, none⟩ = some (.string s)) (hlt : p < w.heap.size) :
    Calls Try.prog 93 #[.slice a u.length cap, .func (.func 94) #[] #[.pointer (some ⟨p, 0, none⟩)]] w fun e w' => e = .returned (.int .i64 (Tb.find u s)) ∧ Below w.heap.size w w' := by
  have HU := Aid.hid hu
  have sm := hu.small
  have HP := Aid.hid hp
  clear hu hp
  go_enter Try.func93, Try.ntmps93
  try simp only [List.append_eq, List.cons_append, List.nil_append]
  go_wp2_with fail
  go_loopw [8] (fun vi wr => ∃ k : Nat, vi = .int .i64 k ∧ k ≤ u.length ∧ Hid (∀ j, j < k → ∀ e, u[j]? = some e → (e.name.toList == s.toList) = false) ∧ Below w.heap.size w wr) (fun vi _ => u.length - (intOf vi).toNat)
  case atStart => exact ⟨0, rfl, Nat.zero_le _, Aid.hid (fun j hj => by omega), Below.refl _ _⟩
  case round =>
    obtain ⟨k, rfl, hk, NO, hb⟩ := hrel
    by_cases hkl : k < u.length
    · obtain ⟨b, off, rfl, _, hc⟩ := (HU.out.below hb hB).at_ (by omega)
      obtain ⟨d, hd⟩ : ∃ d, u[k]? = some d := ⟨_, List.getElem?_eq_getElem hkl⟩
      have c0 := hc k d hd 0 _ rfl
      have c1 := hc k d hd 1 _ rfl
      have c2 := hc k d hd 2 _ rfl
      have c3 := hc k d hd 3 _ rfl
      have c4 := hc k d hd 4 _ rfl
      have c5 := hc k d hd 5 _ rfl
      have c6 := hc k d hd 6 _ rfl
      have c7 := hc k d hd 7 _ rfl
      have c8 := hc k d hd 8 _ rfl
      have c9 := hc k d hd 9 _ rfl
      have c10 := hc k d hd 10 _ rfl
      simp only [Nat.add_zero] at c0
      have HD := Aid.hid hd
      clear hc hd
      obtain ⟨r, hr⟩ : ∃ r, (d.name.toList == s.toList) = r := ⟨_, rfl⟩
      have HR := Aid.hid hr
      clear hr
      go_wp2_with fail
      refine (find1_is d p s r _ HR.out ((hb.cell (p := ⟨p, 0, none⟩) hlt).trans HP.out) (Nat.lt_of_lt_of_le hlt hb.size)).mono ?_; rintro e w' ⟨rfl, hb'⟩
      replace hb := hb.trans (hb'.mono hb.size)
      clear hb' c0 c1 c2 c3 c4 c5 c6 c7 c8 c9 c10
      cases r
      · have NX : Hid (∀ j, j < k + 1 → ∀ e, u[j]? = some e → (e.name.toList == s.toList) = false) := Aid.hid (fun j hj e he => by
          rcases Nat.lt_or_ge j k with h | h
          · exact NO.out j h e he
          · obtain rfl : j = k := by omega
            rw [HD.out] at he
            obtain rfl := Option.some.inj he
            exact HR.out)
        go_wp2_with fail
        go_roundw
        case rel => exact ⟨k + 1, by go_num, by omega, NX, hb⟩
        case measure => simp [intOf]; omega
      · have E := Aid.hid (Tb.find_hit HD.out HR.out NO.out)
        go_wp2_with fail
        go_ret
        exact ⟨by rw [E.out]; rfl, hb⟩
    · have E := Aid.hid (Tb.find_miss (u := u) (s := s) (fun j hj => NO.out j (by omega)))
      go_wp2_with fail
      go_ret
      exact ⟨by rw [E.out]; rfl, hb⟩

set_option maxRecDepth 100000 in
set_option maxHeartbeats 1000000 in
theorem find_any (u : List Dk) (a : Option Addr) (B cap : Nat) (s : ByteArray) (w : World) (hu : UnitAt w B a u) (hB : B ≤ w.heap.size) :
    Calls Try.prog 65 #[.agg #[.slice a u.length cap], .string s] w fun e w' => e = .returned (.int .i64 (Tb.find u s)) ∧ Below w.heap.size w w' := by
  have HU := Aid.hid hu
  clear hu
  go_enter Try.func65, Try.ntmps65
  go_wp2_with fail
  have hb : Below w.heap.size w ((w.alloc (.cells #[.slice a u.length cap] 24)).alloc (.cells #[.string s] 9)) := ((Below.refl _ _).alloc (Nat.le_refl _) _).alloc (by simp) _
  refine (indexDecl_any u a B cap (w.heap.size + 1) s _ (HU.out.below hb hB) (by simp; omega) (by simp) (by simp)).mono ?_; rintro e w' ⟨rfl, hb'⟩
  go_wp2_with fail
  go_ret
  exact ⟨rfl, hb.trans (hb'.mono (by simp; omega))⟩
theorem find_is (u : List Dk) (a : Option Addr) (B cap : Nat) (s : ByteArray) (r : Int) (w : World) (hr : Tb.find u s = r) (hu : UnitAt w B a u) (hB : B ≤ w.heap.size) :
    Calls Try.prog 65 #[.agg #[.slice a u.length cap], .string s] w fun e w' => e = .returned (.int .i64 r) ∧ Below w.heap.size w w' := by
  rw [← hr]; exact find_any u a B cap s w hu hB
end Go.Proofs.Ytmhdcehpddbjaaa
