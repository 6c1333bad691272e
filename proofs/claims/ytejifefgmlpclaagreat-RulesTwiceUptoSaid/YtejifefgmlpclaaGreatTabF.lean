/- Method, as a walk: its parts. -/
import Derived.Test.YtejifefgmlpclaaGreatTabE
set_option linter.unusedSimpArgs false
set_option linter.unusedVariables false
namespace Go.Proofs.YtejifefgmlpclaaGreat
open Go.RowKit

/-- The first method of a name; -1. -/
def Tb.mindex (ms : List Md) (s : ByteArray) : Int := match ms.findIdx? (fun m => m.name.toList == s.toList) with | some i => (i : Int) | none => -1
theorem Tb.mindex_hit {u : List Md} {s : ByteArray} {k : Nat} {d : Md} (hd : u[k]? = some d) (h : (d.name.toList == s.toList) = true) (hno : ∀ j, j < k → ∀ e, u[j]? = some e → (e.name.toList == s.toList) = false) : Tb.mindex u s = k := by
  obtain ⟨hk, hdk⟩ := List.getElem?_eq_some_iff.1 hd
  have : u.findIdx? (fun d => d.name.toList == s.toList) = some k := by
    rw [List.findIdx?_eq_some_iff_getElem]
    exact ⟨hk, by rw [hdk]; exact h, fun j hj => by simpa using hno j hj _ (List.getElem?_eq_getElem (by omega))⟩
  unfold Tb.mindex; rw [this]
theorem Tb.mindex_miss {u : List Md} {s : ByteArray} (hno : ∀ j, j < u.length → ∀ e, u[j]? = some e → (e.name.toList == s.toList) = false) : Tb.mindex u s = -1 := by
  have : u.findIdx? (fun d => d.name.toList == s.toList) = none := by
    rw [List.findIdx?_eq_none_iff]
    intro d hd
    obtain ⟨j, hj, rfl⟩ := List.getElem_of_mem hd
    exact hno j hj _ (List.getElem?_eq_getElem hj)
  unfold Tb.mindex; rw [this]

set_option maxRecDepth 100000 in
set_option maxHeartbeats 1000000 in
theorem meth1_any (m : Md) (p : Nat) (s : ByteArray) (w : World) (hp : w.cell? ⟨p, 0, none⟩ = some (.string s)) (hlt : p < w.heap.size) :
    Calls Tryz.prog 75 #[.agg #[.string m.name, .bool m.over, .bool m.abs, .bool m.fin, .slice m.pA m.ps.length m.pc, .int .i64 m.res.k, .int .i64 m.res.lo, .int .i64 m.res.hi, .string m.res.name, .slice m.vA m.vs.length m.vc, .slice m.bA m.body.length m.bc], .pointer (some ⟨p, 0, none⟩)] w fun e w' => e = .returned (.bool (m.name.toList == s.toList)) ∧ Below w.heap.size w w' := by
  go_enter Tryz.func75, Tryz.ntmps75
  go_wp2_with fail
  go_ret
  exact ⟨rfl, (Below.refl _ _).alloc (Nat.le_refl _) _⟩

set_option maxRecDepth 100000 in
set_option maxHeartbeats 2000000 in
theorem indexMeth_any (d : Dk) (B p : Nat) (s : ByteArray) (w : World) (hd : DkAt w B d) (hB : B ≤ w.heap.size) (hp : w.cell? ⟨p, 0, none⟩ = some (.string s)) (hlt : p < w.heap.size) :
    Calls Tryz.prog 44 #[.slice d.mA d.ms.length d.mc, .func (.func 75) #[] #[.pointer (some ⟨p, 0, none⟩)]] w fun e w' => e = .returned (.int .i64 (Tb.mindex d.ms s)) ∧ Below w.heap.size w w' := by
  have HD := Aid.hid hd
  have sm := hd.smallM
  have HP := Aid.hid hp
  clear hd hp
  go_enter Tryz.func44, Tryz.ntmps44
  try simp only [List.append_eq, List.cons_append, List.nil_append]
  go_wp2_with fail
  go_loopw [8] (fun vi wr => ∃ k : Nat, vi = .int .i64 k ∧ k ≤ d.ms.length ∧ Hid (∀ j, j < k → ∀ e, d.ms[j]? = some e → (e.name.toList == s.toList) = false) ∧ Below w.heap.size w wr) (fun vi _ => d.ms.length - (intOf vi).toNat)
  case atStart => exact ⟨0, rfl, Nat.zero_le _, Aid.hid (fun j hj => by omega), Below.refl _ _⟩
  case round =>
    obtain ⟨k, rfl, hk, NO, hb⟩ := hrel
    by_cases hkl : k < d.ms.length
    · obtain ⟨b, off, hA, _, hc⟩ := (HD.out.below hb hB).meth (by omega)
      rw [hA]
      obtain ⟨m, hm⟩ : ∃ m, d.ms[k]? = some m := ⟨_, List.getElem?_eq_getElem hkl⟩
      have c0 := hc k m hm 0 _ rfl
      have c1 := hc k m hm 1 _ rfl
      have c2 := hc k m hm 2 _ rfl
      have c3 := hc k m hm 3 _ rfl
      have c4 := hc k m hm 4 _ rfl
      have c5 := hc k m hm 5 _ rfl
      have c6 := hc k m hm 6 _ rfl
      have c7 := hc k m hm 7 _ rfl
      have c8 := hc k m hm 8 _ rfl
      have c9 := hc k m hm 9 _ rfl
      have c10 := hc k m hm 10 _ rfl
      simp only [Nat.add_zero] at c0
      have HM := Aid.hid hm
      clear hc hm
      obtain ⟨r, hr⟩ : ∃ r, (m.name.toList == s.toList) = r := ⟨_, rfl⟩
      have HR := Aid.hid hr
      clear hr
      go_wp2_with fail
      have CON := meth1_any m p s _ ((hb.cell (p := ⟨p, 0, none⟩) hlt).trans HP.out) (Nat.lt_of_lt_of_le hlt hb.size)
      rw [HR.out] at CON
      refine CON.mono ?_; rintro e w' ⟨rfl, hb'⟩
      replace hb := hb.trans (hb'.mono hb.size)
      clear CON hb' c0 c1 c2 c3 c4 c5 c6 c7 c8 c9 c10
      cases r
      · have NX : Hid (∀ j, j < k + 1 → ∀ e, d.ms[j]? = some e → (e.name.toList == s.toList) = false) := Aid.hid (fun j hj e he => by
          rcases Nat.lt_or_ge j k with h | h
          · exact NO.out j h e he
          · obtain rfl : j = k := by omega
            rw [HM.out] at he
            obtain rfl := Option.some.inj he
            exact HR.out)
        go_wp2_with fail
        go_roundw
        case rel => exact ⟨k + 1, by go_num, by omega, NX, hb⟩
        case measure => simp [intOf]; omega
      · have E := Aid.hid (Tb.mindex_hit HM.out HR.out NO.out)
        go_wp2_with fail
        go_ret
        exact ⟨by rw [E.out]; rfl, hb⟩
    · have E := Aid.hid (Tb.mindex_miss (u := d.ms) (s := s) (fun j hj => NO.out j (by omega)))
      go_wp2_with fail
      go_ret
      exact ⟨by rw [E.out]; rfl, hb⟩
theorem indexMeth_is (d : Dk) (B p : Nat) (s : ByteArray) (r : Int) (w : World) (hr : Tb.mindex d.ms s = r) (hd : DkAt w B d) (hB : B ≤ w.heap.size) (hp : w.cell? ⟨p, 0, none⟩ = some (.string s)) (hlt : p < w.heap.size) :
    Calls Tryz.prog 44 #[.slice d.mA d.ms.length d.mc, .func (.func 75) #[] #[.pointer (some ⟨p, 0, none⟩)]] w fun e w' => e = .returned (.int .i64 r) ∧ Below w.heap.size w w' := by
  rw [← hr]; exact indexMeth_any d B p s w hd hB hp hlt
end Go.Proofs.YtejifefgmlpclaaGreat
