/- errors.As at a target of type **diag.Error, as a walk. -/
import Derived.Test.YtblkcgbifecemaaDoorErrAsF
namespace Go.Proofs.YtblkcgbifecemaaDoor
open Go.RowKit Go.Extern.Stop Go.Stop Go.Extern

/-- What errors.As leaves: the first of package diag's errors at the target; or none. -/
def As.Left (E : Er) (tb : Nat) (e : Ending) (w' : World) : Prop :=
  match E.first with
  | some (b, _, _, _) => e = .returned (.bool true) ∧ Aid.Has w' tb [.pointer (some ⟨b, 0, none⟩)] 46
  | none => e = .returned (.bool false) ∧ Aid.Has w' tb [.pointer none] 46
set_option maxRecDepth 100000 in
set_option maxHeartbeats 4000000 in
theorem asLoop (E : Er) (tb vb : Nat) (W : World) (hn : E ≠ .nil) (hE : E.At W) (hT : Aid.Has W tb [.pointer none] 46) (hV : Aid.Has W vb [.pointer (some ⟨tb, 0, none⟩)] 77) :
    Calls Tryd.prog 32 #[E.v, .iface 77 (.pointer (some ⟨tb, 0, none⟩)), .agg #[.pointer (some ⟨4, 77, none⟩), .pointer (some ⟨vb, 0, none⟩), .int .u64 150], .iface 69 (.agg #[.pointer (some ⟨4, 46, none⟩)])] W
      fun e w' => As.Left E tb e w' ∧ Below tb W w' := by
  have h37 := @run_callFunc_extern Tryd.prog 37 _ (ReflectliteValue.method (ReflectliteValue.valueError "reflectlite.Value.Elem" 0) ReflectliteValue.elem) Tryd.func37 (by kernel_rfl) (by kernel_rfl) (by kernel_rfl) (by kernel_rfl)
  have h38 := @run_callFunc_extern Tryd.prog 38 _ ReflectliteValue.set Tryd.func38 (by kernel_rfl) (by kernel_rfl) (by kernel_rfl) (by kernel_rfl)
  have f1 := Er.callTypeOf
  have f2 := As.typeOfO
  have f3 := As.typeOfS
  have f4 := As.mAssignable
  have f5 := As.assignableE
  have f6 := As.assignableO
  have f7 := As.assignableS
  have f8 := As.valueOfE
  have f9 := As.noAsO
  have f10 := As.noAsS
  have g2 := Er.hasUnwrapE
  have g4 := Er.hasUnwrapO
  have g6 := Er.noUnwrapS
  have g7 := Er.noUnwrapsS
  have g9 := Er.mUnwrapE
  have g10 := Er.mUnwrapO
  have b0 : Below W.heap.size W (W.alloc (.cells #[.pointer (some ⟨4, 77, none⟩), .pointer (some ⟨vb, 0, none⟩), .int .u64 150] 82)) := (Below.refl _ _).alloc (Nat.le_refl _) _
  have bx := Aid.Has.new W [.pointer (some ⟨4, 77, none⟩), .pointer (some ⟨vb, 0, none⟩), .int .u64 150] 82
  have HE := Aid.hid (hE.below b0)
  have HT := Aid.hid (hT.below b0 hT.lt)
  have HV := Aid.hid (hV.below b0 hV.lt)
  have htl : tb < W.heap.size := hT.lt
  have hvl : vb < W.heap.size := hV.lt
  clear hE hT hV
  go_enter Tryd.func32, Tryd.ntmps32
  try simp only [List.append_eq, List.cons_append, List.nil_append]
  go_wp2_with fail
  obtain ⟨xb, hxb⟩ : ∃ xb, W.heap.size = xb := ⟨_, rfl⟩
  generalize W.alloc (.cells #[.pointer (some ⟨4, 77, none⟩), .pointer (some ⟨vb, 0, none⟩), .int .u64 150] 82) = W1 at *
  rw [hxb] at bx ⊢
  have HB := Aid.hid b0
  have HX := Aid.hid bx
  clear b0 bx
  go_loopg [0] (E.deep) (fun k v wr => ∃ E' : Er, v = E'.v ∧ E' ≠ .nil ∧ k = E'.deep ∧ Hid (E'.At wr) ∧ Hid (E'.first = E.first) ∧ Hid (Below W1.heap.size W1 wr))
  case atStart => exact ⟨E, rfl, hn, rfl, HE, Aid.hid rfl, Aid.hid (Below.refl _ _)⟩
  case round =>
    obtain ⟨E', rfl, hn', rfl, HA, HF, HR⟩ := hrel
    have hx := HX.out.below HR.out HX.out.lt
    have ht := HT.out.below HR.out HT.out.lt
    have hv := HV.out.below HR.out HV.out.lt
    have x0 := hx.cell 0 _ rfl
    have x1 := hx.cell 1 _ rfl
    have x2 := hx.cell 2 _ rfl
    have BT : Hid (Below tb W wr) := Aid.hid ((HB.out.mono (by omega)).trans (HR.out.mono (by have := HB.out.size; omega)))
    have HT2 := Aid.hid ht
    cases E' with
    | nil => exact absurd rfl hn'
    | own b k a s =>
      have el := As.elemVP ⟨vb, 0, none⟩ ⟨tb, 0, none⟩ wr (hv.cell 0 _ rfl)
      have st := As.setE ⟨tb, 0, none⟩ ⟨wr.heap.size, 0, none⟩ ⟨b, 0, none⟩ (.pointer none) (wr.alloc (.cells #[.pointer (some ⟨b, 0, none⟩)] 46))
        ((Aid.Has.new wr [.pointer (some ⟨b, 0, none⟩)] 46).cell 0 _ rfl) ((ht.alloc _).cell 0 _ rfl) ((ht.alloc _).frozen 0)
      have F2 : Hid (E.first = some (b, k, a, s)) := Aid.hid (HF.out.symm.trans rfl)
      clear ht hv hx
      dsimp only [Er.v]
      go_wp2_with fail
      go_ret
      refine ⟨?_, (BT.out.alloc (by have := BT.out.size; omega) _).setCell (Nat.le_refl _) _⟩
      unfold As.Left
      rw [F2.out]
      exact ⟨rfl, ((HT2.out.alloc _).set 0 _)⟩
    | other s =>
      clear hx hv ht
      dsimp only [Er.v]
      go_wp2_with fail
      refine (unwrap_other s.v _).mono ?_; rintro e w2 ⟨rfl, hb⟩
      have HR2 := Aid.hid (HR.out.trans (hb.mono HR.out.size))
      have HA2 : Hid (s.At w2) := Aid.hid (Er.At.below (E := s) HA.out hb)
      have HF2 : Hid (s.first = E.first) := HF
      have HT3 : Hid (Aid.Has w2 tb [.pointer none] 46) := Aid.hid (HT2.out.below hb HT2.out.lt)
      have BT2 : Hid (Below tb W w2) := Aid.hid (BT.out.trans (hb.mono (by have := HT2.out.lt; omega)))
      clear hb x0 x1 x2
      cases s with
      | nil =>
        dsimp only [Er.v]
        go_wp2_with fail
        go_ret
        refine ⟨?_, BT2.out⟩
        unfold As.Left
        rw [show E.first = none from HF2.out.symm]
        exact ⟨rfl, HT3.out⟩
      | own b2 k2 a2 s2 =>
        dsimp only [Er.v]
        go_wp2_with fail
        go_roundg (Er.own b2 k2 a2 s2).deep
        case rel => exact ⟨_, rfl, by simp, rfl, HA2, HF2, HR2⟩
        case measure => show _ < (Er.other _).deep; simp [Er.deep]
      | other s2 =>
        dsimp only [Er.v]
        go_wp2_with fail
        go_roundg (Er.other s2).deep
        case rel => exact ⟨_, rfl, by simp, rfl, HA2, HF2, HR2⟩
        case measure => show _ < (Er.other _).deep; simp [Er.deep]
      | es b2 s2 =>
        dsimp only [Er.v]
        go_wp2_with fail
        go_roundg (Er.es b2 s2).deep
        case rel => exact ⟨_, rfl, by simp, rfl, HA2, HF2, HR2⟩
        case measure => show _ < (Er.other _).deep; simp [Er.deep]
    | es b s =>
      have HF2 : Hid (E.first = none) := Aid.hid (HF.out.symm.trans rfl)
      clear hx hv ht
      dsimp only [Er.v]
      go_wp2_with fail
      go_ret
      refine ⟨?_, BT.out⟩
      unfold As.Left
      rw [HF2.out]
      exact ⟨rfl, HT2.out⟩
end Go.Proofs.YtblkcgbifecemaaDoor
