/- An image laid: the program's bytes. -/
import Derived.Test.YtaogegeidbclaaaGreatDoorImgRLay
import Derived.Test.YtaogegeidbclaaaGreatDoorImgAll
namespace Go.Proofs.YtaogegeidbclaaaGreatDoor
open Go.RowKit

set_option maxHeartbeats 400000 in
theorem new_any (c a : Int) (w : World) :
    Calls Tryz.prog 21 #[.int .i64 c, .int .i64 a] w fun e w' => e = .returned (.iface 113 (.pointer (some ⟨w.heap.size, 0, none⟩))) ∧ w' = w.alloc (.cells #[.int .i64 c, .int .i64 a, .nilIface] 115) := by
  go_enter Tryz.func21, Tryz.ntmps21
  go_wp2_with fail
  go_ret
  exact ⟨rfl, rfl⟩
/-- An error of package diag: its block, its code. -/
def Wrong (w : World) (b : Nat) (c : Int) : Prop := Aid.Has w b [.int .i64 c, .int .i64 0, .nilIface] 115
/-- What the program's laying comes to. -/
def LaidP (X : Img) (B : Nat) (e : Ending) (w' : World) : Prop :=
  ((Pc.img X).x = true ∧ ∃ b, e = .returned (.tuple #[.slice none 0 0, .iface 113 (.pointer (some ⟨b, 0, none⟩))]) ∧ B ≤ b ∧ Wrong w' b 24) ∨
  ((Pc.img X).x = false ∧ ∃ A c, e = .returned (.tuple #[.slice A (Pc.img X).b.length c, .nilIface]) ∧ w'.ownsRow B 5 1 (.slice A (Pc.img X).b.length c) (Pc.img X).b.length ((Pc.img X).b.map (Value.int .u8)))
set_option maxRecDepth 100000 in
set_option maxHeartbeats 1000000 in
theorem lay_is (X : Img) (w : World) (hx : Img.At w w.heap.size X) (lb : (Pc.img X).b.length ≤ 100000000000000) :
    Calls Tryz.prog 8 #[.agg #[.slice X.fA X.faces.length X.fc, .slice X.cA X.classes.length X.cc, .slice X.dA X.codes.length X.dc, .slice X.nA X.insts.length X.nc, .string X.globals, .slice X.iA X.init.length X.ic, .slice X.bA X.blocks.length X.bc, .slice X.xA X.ins.length X.xc, .slice X.oA X.outs.length X.oc, .slice X.jA X.jobs.length X.jc, .int .i64 X.d, .int .i64 X.w]] w fun e w' => Below w.heap.size w w' ∧ LaidP X w.heap.size e w' := by
  obtain ⟨W, hW⟩ : ∃ W, ((w.alloc (.cells #[.slice X.fA X.faces.length X.fc, .slice X.cA X.classes.length X.cc, .slice X.dA X.codes.length X.dc, .slice X.nA X.insts.length X.nc, .string X.globals, .slice X.iA X.init.length X.ic, .slice X.bA X.blocks.length X.bc, .slice X.xA X.ins.length X.xc, .slice X.oA X.outs.length X.oc, .slice X.jA X.jobs.length X.jc, .int .i64 X.d, .int .i64 X.w] 29)).alloc (.cells #[.slice none 0 0, .bool false] 63)) = W := ⟨_, rfl⟩
  have hb0 : Aid.Has W w.heap.size [.slice X.fA X.faces.length X.fc, .slice X.cA X.classes.length X.cc, .slice X.dA X.codes.length X.dc, .slice X.nA X.insts.length X.nc, .string X.globals, .slice X.iA X.init.length X.ic, .slice X.bA X.blocks.length X.bc, .slice X.xA X.ins.length X.xc, .slice X.oA X.outs.length X.oc, .slice X.jA X.jobs.length X.jc, .int .i64 X.d, .int .i64 X.w] 29 := by subst hW; exact (Aid.Has.new w [.slice X.fA X.faces.length X.fc, .slice X.cA X.classes.length X.cc, .slice X.dA X.codes.length X.dc, .slice X.nA X.insts.length X.nc, .string X.globals, .slice X.iA X.init.length X.ic, .slice X.bA X.blocks.length X.bc, .slice X.xA X.ins.length X.xc, .slice X.oA X.outs.length X.oc, .slice X.jA X.jobs.length X.jc, .int .i64 X.d, .int .i64 X.w] 29).alloc _
  have b0 : Below w.heap.size w W := by subst hW; exact ((Below.refl _ w).alloc (Nat.le_refl _) _).alloc (by simp) _
  have i0 : Wt.Is W 63 (w.heap.size + 1) Pc.none := by subst hW; have := Wt.Is.new (w.alloc (.cells #[.slice X.fA X.faces.length X.fc, .slice X.cA X.classes.length X.cc, .slice X.dA X.codes.length X.dc, .slice X.nA X.insts.length X.nc, .string X.globals, .slice X.iA X.init.length X.ic, .slice X.bA X.blocks.length X.bc, .slice X.xA X.ins.length X.xc, .slice X.oA X.outs.length X.oc, .slice X.jA X.jobs.length X.jc, .int .i64 X.d, .int .i64 X.w] 29)) 63; rwa [World.size_alloc] at this
  have HC := Aid.hid (wimg_is (w.heap.size + 1) X Pc.none W i0 ((hx.below b0 (Nat.le_refl _)).more (Nat.le_succ _)) (by rw [Pc.none_app]; exact lb))
  have B0 := Aid.hid b0
  have c0 := hb0.cell 0 _ rfl
  have c1 := hb0.cell 1 _ rfl
  have c2 := hb0.cell 2 _ rfl
  have c3 := hb0.cell 3 _ rfl
  have c4 := hb0.cell 4 _ rfl
  have c5 := hb0.cell 5 _ rfl
  have c6 := hb0.cell 6 _ rfl
  have c7 := hb0.cell 7 _ rfl
  have c8 := hb0.cell 8 _ rfl
  have c9 := hb0.cell 9 _ rfl
  have c10 := hb0.cell 10 _ rfl
  have c11 := hb0.cell 11 _ rfl
  clear hb0 b0 i0 hx lb
  subst hW
  go_enter Tryz.func8, Tryz.ntmps8
  try simp only [List.append_eq, List.cons_append, List.nil_append]
  go_wp2_with fail
  go_at_call 20
  refine HC.out.mono ?_
  rintro e w1 ⟨rfl, h2, h3⟩
  rw [Pc.none_app] at h2
  obtain ⟨B, d, HP, HO⟩ := h2
  have p0 := HP.cell 0 _ rfl
  have p1 := HP.cell 1 _ rfl
  have hp1 := HP.lt
  have FB := Aid.hid (B0.out.trans (h3.1.mono (Nat.le_succ _)))
  have HO1 := Aid.hid (own_lowers HO (base := w.heap.size) (by omega))
  clear HP HO h3 HC B0 c0 c1 c2 c3 c4 c5 c6 c7 c8 c9 c10 c11
  obtain ⟨pc, hpc⟩ : ∃ pc, Pc.img X = pc := ⟨_, rfl⟩
  have HE := Aid.hid hpc
  rw [hpc] at p0 p1 HO1
  clear hpc
  cases hb : pc.x
  · rw [hb] at p1
    have HBB := Aid.hid hb
    clear hb
    go_wp2_with fail
    go_ret2
    exact ⟨FB.out, Or.inr ⟨by rw [HE.out]; exact HBB.out, B, d, by have h := HE.out; subst h; rfl, by rw [HE.out]; exact HO1.out⟩⟩
  · rw [hb] at p1
    have HBB := Aid.hid hb
    clear hb
    go_wp2_with fail
    go_at_call 21
    refine (new_any 24 0 w1).mono ?_
    rintro e w2 ⟨rfl, rfl⟩
    go_wp2_with fail
    go_ret2
    exact ⟨FB.out.alloc (by omega) _, Or.inl ⟨by rw [HE.out]; exact HBB.out, _, rfl, by omega, Aid.Has.new w1 [.int .i64 24, .int .i64 0, .nilIface] 115⟩⟩
end Go.Proofs.YtaogegeidbclaaaGreatDoor
