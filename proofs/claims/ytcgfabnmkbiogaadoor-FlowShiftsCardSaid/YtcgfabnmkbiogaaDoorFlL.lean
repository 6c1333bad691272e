/- Check. -/
import Derived.Test.YtcgfabnmkbiogaaDoorFlK
import Derived.RegionTactic
import Derived.BigRegion
import Derived.ChangeAlike
import Derived.Laws.MakeOwn
import Derived.LoopTactic
import Derived.WalkKit
import Derived.WalkSpells
import Derived.WalkLawsBesides
import Derived.LoopTactic
import Derived.Deep.QuietTactic
import Derived.BigQuiet
import Derived.Below
import Derived.Laws.ResultCell
import Derived.Laws.Tables
import Derived.Laws.Rows
import Derived.Deep.Cut
import Derived.KernelRfl
namespace Go.Proofs.YtcgfabnmkbiogaaDoor
open Go.RowKit

/-- What Check comes to. -/
def CheckP (x : Img) (n : Int) (e : Ending) : Prop := ∃ r : Option Int, Fl.Is x n r ∧ e = .returned (.tuple #[.int .i64 (r.getD 0), .bool r.isSome])
theorem made_list (z : Value) (n : Nat) : (madeCells #[z] n).toList = List.replicate n z := by
  unfold madeCells
  apply List.ext_getElem
  · simp
  · intro i h1 h2
    simp [Nat.mod_one]
theorem info_bool : (Tryd.prog.info? 4).map (fun i => (i.zero, i.size, i.bytes)) = some (some (.bool false), 1, 1) := by kernel_rfl
theorem info_string : (Tryd.prog.info? 9).map (fun i => (i.zero, i.size, i.bytes)) = some (some (.string ⟨#[]⟩), 1, 16) := by kernel_rfl
theorem made_bools (X : World) (n : Nat) (hn : n ≤ 1000) : (Instr.makeSlice 49 (.int .i64 (n : Int)) (.int .i64 (n : Int))).run Tryd.prog X = .ok (.slice (some ⟨X.heap.size, 0, none⟩) n n) (X.alloc (.cells (List.replicate n (.bool false)).toArray 4)) := by
  obtain ⟨i0, hi, hz0, hz1, hz2⟩ := info_parts info_bool
  have h := run_make (P := Tryd.prog) X 49 4 i0 (.bool false) Tryd.underlying49 hi hz0 .i64 .i64 n n (by omega) (by omega) (by rw [hz2]; omega) (by omega)
  have e : ((n : Int)).toNat = n := by omega
  rw [e, hz1, Nat.mul_one] at h
  rw [h, ← made_list, Array.toArray_toList]; rfl
theorem made_strings (X : World) (n : Nat) (hn : n ≤ 1000) : (Instr.makeSlice 50 (.int .i64 (n : Int)) (.int .i64 (n : Int))).run Tryd.prog X = .ok (.slice (some ⟨X.heap.size, 0, none⟩) n n) (X.alloc (.cells (List.replicate n (.string ⟨#[]⟩)).toArray 9)) := by
  obtain ⟨i0, hi, hz0, hz1, hz2⟩ := info_parts info_string
  have h := run_make (P := Tryd.prog) X 50 9 i0 (.string ⟨#[]⟩) Tryd.underlying50 hi hz0 .i64 .i64 n n (by omega) (by omega) (by rw [hz2]; omega) (by omega)
  have e : ((n : Int)).toNat = n := by omega
  rw [e, hz1, Nat.mul_one] at h
  rw [h, ← made_list, Array.toArray_toList]; rfl
theorem FSt.reach_td {s s' : FSt} {i : Int} {t : ByteArray} {N : Nat} (h : s.reach i t = some s') (hN : s.kn.length = N) (hs : ∀ j ∈ s.td, j < N) : s'.kn.length = N ∧ ∀ j ∈ s'.td, j < N := by
  unfold FSt.reach at h
  split at h
  · rename_i hi
    split at h
    · split at h
      · cases h; exact ⟨hN, hs⟩
      · cases h
    · cases h
      refine ⟨by simpa using hN, fun j hj => ?_⟩
      rcases List.mem_append.1 hj with h1 | h1
      · exact hs j h1
      · obtain rfl : j = i.toNat := by simpa using h1
        omega
  · cases h
theorem FSt.go_td {s s' : FSt} {k a i : Int} {t : ByteArray} {N : Nat} (h : s.go k a i t = some s') (hN : s.kn.length = N) (hs : ∀ j ∈ s.td, j < N) : ∀ j ∈ s'.td, j < N := by
  unfold FSt.go at h
  split at h
  · split at h
    · cases h; exact hs
    · cases h
  · split at h
    · cases hr : s.reach a t with
      | none => rw [hr] at h; cases h
      | some s2 =>
        rw [hr] at h
        obtain ⟨h1, h2⟩ := FSt.reach_td hr hN hs
        exact (FSt.reach_td h h1 h2).2
    · split at h
      · exact (FSt.reach_td h hN hs).2
      · exact (FSt.reach_td h hN hs).2
theorem FSt.step_td {x : Img} {c : Cod} {s s' : FSt} {i N : Nat} (h : FSt.step x c s i = some s') (hN : s.kn.length = N) (hs : ∀ j ∈ s.td, j < N) : ∀ j ∈ s'.td, j < N := by
  unfold FSt.step at h
  split at h
  · split at h
    · cases h
    · split at h
      · exact FSt.go_td h hN hs
      · cases h
  · cases h
set_option maxRecDepth 100000 in
set_option maxHeartbeats 2000000 in
theorem check_is (x : Img) (n : Int) (B : Nat) (w : World) (hx : Img.At w B x) (hB : B ≤ w.heap.size) (sm : Fl.Sm x) (ml : Fl.Max w) :
    Calls Tryd.prog 8 #[.agg #[.slice x.fA x.faces.length x.fc, .slice x.cA x.classes.length x.cc, .slice x.dA x.codes.length x.dc, .slice x.nA x.insts.length x.nc, .string x.globals, .slice x.iA x.init.length x.ic, .slice x.bA x.blocks.length x.bc, .slice x.xA x.ins.length x.xc, .slice x.oA x.outs.length x.oc, .slice x.jA x.jobs.length x.jc, .int .i64 x.d, .int .i64 x.w], .int .i64 n] w fun e w' => CheckP x n e ∧ Below w.heap.size w w' := by
  have hbx := Aid.Has.new w [.slice x.fA x.faces.length x.fc, .slice x.cA x.classes.length x.cc, .slice x.dA x.codes.length x.dc, .slice x.nA x.insts.length x.nc, .string x.globals, .slice x.iA x.init.length x.ic, .slice x.bA x.blocks.length x.bc, .slice x.xA x.ins.length x.xc, .slice x.oA x.outs.length x.oc, .slice x.jA x.jobs.length x.jc, .int .i64 x.d, .int .i64 x.w] 35
  have k1 : Below w.heap.size w (w.alloc (.cells #[.slice x.fA x.faces.length x.fc, .slice x.cA x.classes.length x.cc, .slice x.dA x.codes.length x.dc, .slice x.nA x.insts.length x.nc, .string x.globals, .slice x.iA x.init.length x.ic, .slice x.bA x.blocks.length x.bc, .slice x.xA x.ins.length x.xc, .slice x.oA x.outs.length x.oc, .slice x.jA x.jobs.length x.jc, .int .i64 x.d, .int .i64 x.w] 35)) := (Below.refl _ w).alloc (Nat.le_refl _) _
  have K1 := Aid.hid k1
  have HBX := Aid.hid hbx
  have a2 := hbx.cell 2 _ rfl
  by_cases h0 : n < 0
  · clear hbx k1
    go_enter Tryd.func8, Tryd.ntmps8
    try simp only [List.append_eq, List.cons_append, List.nil_append]
    go_wp2_with fail
    go_ret2
    exact ⟨⟨none, Or.inl ⟨by omega, rfl⟩, rfl⟩, K1.out⟩
  · by_cases hn : n < x.codes.length
    · obtain ⟨q, rfl⟩ : ∃ q : Nat, n = q := ⟨n.toNat, by omega⟩
      obtain ⟨f, hf⟩ : ∃ f, x.codes[q]? = some f := ⟨_, List.getElem?_eq_getElem (by omega)⟩
      have fm := List.mem_of_getElem? hf
      obtain ⟨p1, o1, hA, hb1, hc1⟩ := Rows.get (hx.below k1 hB).codes.2.1 hf
      rw [hA] at a2
      have lx := hx.codes.1
      unfold Lim at lx
      have hq2 : q < x.codes.length := by omega
      have c0 := hc1 0 _ rfl
      have c1 := hc1 1 _ rfl
      have c2 := hc1 2 _ rfl
      have c3 := hc1 3 _ rfl
      have c4 := hc1 4 _ rfl
      have c5 := hc1 5 _ rfl
      simp only [Nat.add_zero] at c0
      have l1 : p1 < w.heap.size := Nat.lt_of_lt_of_le hb1 hB
      obtain ⟨wq, hwr⟩ : ∃ wq, (w.alloc (.cells #[.slice x.fA x.faces.length x.fc, .slice x.cA x.classes.length x.cc, .slice x.dA x.codes.length x.dc, .slice x.nA x.insts.length x.nc, .string x.globals, .slice x.iA x.init.length x.ic, .slice x.bA x.blocks.length x.bc, .slice x.xA x.ins.length x.xc, .slice x.oA x.outs.length x.oc, .slice x.jA x.jobs.length x.jc, .int .i64 x.d, .int .i64 x.w] 35)) = wq := ⟨_, rfl⟩
      obtain ⟨X, hX⟩ : ∃ X, (wq.alloc (.cells #[.slice x.fA x.faces.length x.fc, .slice x.cA x.classes.length x.cc, .slice (some ⟨p1, o1, none⟩) x.codes.length x.dc, .slice x.nA x.insts.length x.nc, .string x.globals, .slice x.iA x.init.length x.ic, .slice x.bA x.blocks.length x.bc, .slice x.xA x.ins.length x.xc, .slice x.oA x.outs.length x.oc, .slice x.jA x.jobs.length x.jc, .int .i64 x.d, .int .i64 x.w, .int .i64 f.cls, .string f.params, .string f.locals, .bool f.ret, .int .i64 f.stack, .slice f.oA f.ops.length f.oc, .slice none 0 0, .slice none 0 0, .slice none 0 0, .int .i64 0] 52)).drew = X := ⟨_, rfl⟩
      have HXX := Aid.hid hX
      have HWR := Aid.hid hwr
      have HF := Aid.hid hf
      have HIM := Aid.hid (⟨hx, sm, fm, ml, hA⟩ : _ ∧ _ ∧ _ ∧ _ ∧ _)
      have hbx2 : Aid.Has wq w.heap.size [.slice x.fA x.faces.length x.fc, .slice x.cA x.classes.length x.cc, .slice (some ⟨p1, o1, none⟩) x.codes.length x.dc, .slice x.nA x.insts.length x.nc, .string x.globals, .slice x.iA x.init.length x.ic, .slice x.bA x.blocks.length x.bc, .slice x.xA x.ins.length x.xc, .slice x.oA x.outs.length x.oc, .slice x.jA x.jobs.length x.jc, .int .i64 x.d, .int .i64 x.w] 35 := by rw [← hwr, ← hA]; exact hbx
      have RC : Hid (wq.cell? ⟨p1, o1 + q * 6, none⟩ = some (.int .i64 f.cls) ∧ wq.cell? ⟨p1, o1 + q * 6 + 1, none⟩ = some (.string f.params) ∧ wq.cell? ⟨p1, o1 + q * 6 + 2, none⟩ = some (.string f.locals) ∧ wq.cell? ⟨p1, o1 + q * 6 + 3, none⟩ = some (.bool f.ret) ∧ wq.cell? ⟨p1, o1 + q * 6 + 4, none⟩ = some (.int .i64 f.stack) ∧ wq.cell? ⟨p1, o1 + q * 6 + 5, none⟩ = some (.slice f.oA f.ops.length f.oc) ∧ p1 < wq.heap.size) := Aid.hid (by rw [← hwr]; exact ⟨c0, c1, c2, c3, c4, c5, Nat.lt_of_lt_of_le l1 k1.size⟩)
      have KR : Hid (Below w.heap.size w wq) := Aid.hid (by rw [← hwr]; exact K1.out)
      clear hbx k1 hx hf hX hc1 sm fm ml hb1 hwr l1 c0 c1 c2 c3 c4 c5 hA a2 K1 HBX
      have HB2 := Aid.hid hbx2
      go_enter Tryd.func8, Tryd.ntmps8
      try simp only [List.append_eq, List.cons_append, List.nil_append]
      go_wp2_with fail
      rw [HWR.out]
      obtain ⟨c0, c1, c2, c3, c4, c5, l1⟩ := RC.out
      have y0 := HB2.out.cell 0 _ rfl
      have y1 := HB2.out.cell 1 _ rfl
      have y2 := HB2.out.cell 2 _ rfl
      have y3 := HB2.out.cell 3 _ rfl
      have y4 := HB2.out.cell 4 _ rfl
      have y5 := HB2.out.cell 5 _ rfl
      have y6 := HB2.out.cell 6 _ rfl
      have y7 := HB2.out.cell 7 _ rfl
      have y8 := HB2.out.cell 8 _ rfl
      have y9 := HB2.out.cell 9 _ rfl
      have y10 := HB2.out.cell 10 _ rfl
      have y11 := HB2.out.cell 11 _ rfl
      clear hbx2
      go_region
      rw [HXX.out]
      clear y0 y1 y2 y3 y4 y5 y6 y7 y8 y9 y10 y11 c0 c1 c2 c3 c4 c5 l1
      have hb0 : Aid.Has X wq.heap.size [.slice x.fA x.faces.length x.fc, .slice x.cA x.classes.length x.cc, .slice (some ⟨p1, o1, none⟩) x.codes.length x.dc, .slice x.nA x.insts.length x.nc, .string x.globals, .slice x.iA x.init.length x.ic, .slice x.bA x.blocks.length x.bc, .slice x.xA x.ins.length x.xc, .slice x.oA x.outs.length x.oc, .slice x.jA x.jobs.length x.jc, .int .i64 x.d, .int .i64 x.w, .int .i64 f.cls, .string f.params, .string f.locals, .bool f.ret, .int .i64 f.stack, .slice f.oA f.ops.length f.oc, .slice none 0 0, .slice none 0 0, .slice none 0 0, .int .i64 0] 52 := by rw [← HXX.out]; exact (Aid.Has.new wq [.slice x.fA x.faces.length x.fc, .slice x.cA x.classes.length x.cc, .slice (some ⟨p1, o1, none⟩) x.codes.length x.dc, .slice x.nA x.insts.length x.nc, .string x.globals, .slice x.iA x.init.length x.ic, .slice x.bA x.blocks.length x.bc, .slice x.xA x.ins.length x.xc, .slice x.oA x.outs.length x.oc, .slice x.jA x.jobs.length x.jc, .int .i64 x.d, .int .i64 x.w, .int .i64 f.cls, .string f.params, .string f.locals, .bool f.ret, .int .i64 f.stack, .slice f.oA f.ops.length f.oc, .slice none 0 0, .slice none 0 0, .slice none 0 0, .int .i64 0] 52).drew
      have KX : Hid (Below w.heap.size w X) := Aid.hid (by rw [← HXX.out]; exact (KR.out.alloc KR.out.size _).drew)
      have hops := (HIM.out.2.1.cp f HIM.out.2.2.1).2.2
      have a17 := hb0.cell 17 _ rfl
      have a18 := hb0.cell 18 _ rfl
      have a19 := hb0.cell 19 _ rfl
      have f18 := hb0.frozen 18
      have f19 := hb0.frozen 19
      have l1 := hb0.lt
      have m1 := fun X => made_bools X f.ops.length hops
      have m2 := fun X => made_strings X f.ops.length hops
      have HB0 := Aid.hid hb0
      clear hb0 HXX HWR RC HB2
      go_wp2_with fail
      go_region
      · obtain ⟨Z, hZ⟩ : ∃ Z, ((((X.setCell ⟨wq.heap.size, 18, none⟩ (.slice (some ⟨X.heap.size, 0, none⟩) f.ops.length f.ops.length)).setCell ⟨wq.heap.size, 19, none⟩ (.slice (some ⟨X.heap.size + 1, 0, none⟩) f.ops.length f.ops.length)).alloc (.cells (Array.replicate f.ops.length (.bool false)) 4)).alloc (.cells (Array.replicate f.ops.length (.string ⟨#[]⟩)) 9)).drew = Z := ⟨_, rfl⟩
        rw [hZ]
        have hY : ((X.setCell ⟨wq.heap.size, 18, none⟩ (.slice (some ⟨X.heap.size, 0, none⟩) f.ops.length f.ops.length)).setCell ⟨wq.heap.size, 19, none⟩ (.slice (some ⟨X.heap.size + 1, 0, none⟩) f.ops.length f.ops.length)).heap.size = X.heap.size := by simp [World.setCell]
        have e1 : (List.replicate f.ops.length (Value.bool false)).toArray = Array.replicate f.ops.length _ := List.toArray_replicate ..
        have e2 : (List.replicate f.ops.length (Value.string ⟨#[]⟩)).toArray = Array.replicate f.ops.length _ := List.toArray_replicate ..
        have n1 : Aid.Has Z X.heap.size (List.replicate f.ops.length (Value.bool false)) 4 := by
          have h := Aid.Has.new ((X.setCell ⟨wq.heap.size, 18, none⟩ (.slice (some ⟨X.heap.size, 0, none⟩) f.ops.length f.ops.length)).setCell ⟨wq.heap.size, 19, none⟩ (.slice (some ⟨X.heap.size + 1, 0, none⟩) f.ops.length f.ops.length)) (List.replicate f.ops.length (Value.bool false)) 4
          rw [hY, e1] at h
          rw [← hZ]; exact (h.alloc _).drew
        have n2 : Aid.Has Z (X.heap.size + 1) (List.replicate f.ops.length (Value.string ⟨#[]⟩)) 9 := by
          have h := Aid.Has.new (((X.setCell ⟨wq.heap.size, 18, none⟩ (.slice (some ⟨X.heap.size, 0, none⟩) f.ops.length f.ops.length)).setCell ⟨wq.heap.size, 19, none⟩ (.slice (some ⟨X.heap.size + 1, 0, none⟩) f.ops.length f.ops.length)).alloc (.cells (Array.replicate f.ops.length (.bool false)) 4)) (List.replicate f.ops.length (Value.string ⟨#[]⟩)) 9
          rw [World.size_alloc, hY, e2] at h
          rw [← hZ]; exact h.drew
        have hbz := ((((HB0.out.set 18 (.slice (some ⟨X.heap.size, 0, none⟩) f.ops.length f.ops.length)).set 19 (.slice (some ⟨X.heap.size + 1, 0, none⟩) f.ops.length f.ops.length)).alloc (.cells (Array.replicate f.ops.length (.bool false)) 4)).alloc (.cells (Array.replicate f.ops.length (.string ⟨#[]⟩)) 9)).drew
        rw [hZ] at hbz
        have kz : Below w.heap.size w Z := by
          rw [← hZ]
          have h1 := (KX.out.setCell (p := ⟨wq.heap.size, 18, none⟩) KR.out.size (.slice (some ⟨X.heap.size, 0, none⟩) f.ops.length f.ops.length)).setCell (p := ⟨wq.heap.size, 19, none⟩) KR.out.size (.slice (some ⟨X.heap.size + 1, 0, none⟩) f.ops.length f.ops.length)
          exact ((h1.alloc h1.size (.cells (Array.replicate f.ops.length (.bool false)) 4)).alloc (h1.alloc h1.size _).size (.cells (Array.replicate f.ops.length (.string ⟨#[]⟩)) 9)).drew
        have lb := HB0.out.lt
        have KZ := Aid.hid kz
        have F0 : Fs w Z wq.heap.size (X.heap.size) (X.heap.size + 1) x f (FSt.start f) none 0 := by
          obtain ⟨hx, sm, fm, ml, hA⟩ := HIM.out
          have lw := KR.out.size
          refine ⟨?_, ?_, ?_, ⟨rfl, Or.inl ⟨rfl, rfl⟩⟩, ⟨by omega, by omega, by omega⟩, (fun p hp => by cases hp), ⟨lw, by omega, by omega⟩, kz, ⟨by simp [FSt.start], by simp [FSt.start]⟩, ?_, ?_, hx.more hB, sm, fm, ml⟩
          · rw [hA]; simpa [FSt.start] using hbz
          · simpa [FSt.start] using n1
          · simpa [FSt.start, Fl.e] using n2
          · intro u hu
            have : u = Fl.e := by simpa [FSt.start] using (List.eq_of_mem_replicate hu)
            subst this; decide
          · simp [FSt.start]
        replace F0 : ∃ G1 G2, Fs w Z wq.heap.size G1 G2 x f (FSt.start f) none 0 := ⟨_, _, F0⟩
        obtain ⟨G1, G2, F0⟩ := F0
        have HR := Aid.hid (reach_is w wq.heap.size G1 G2 x f (FSt.start f) none 0 0 ⟨#[]⟩ Z F0 (by decide))
        clear hZ hY e1 e2 n1 n2 hbz kz F0 lb m1 m2 a17 a18 a19 f18 f19 l1 HB0
        go_wp2_with fail
        go_at_call 13
        refine HR.out.mono ?_
        rintro e w4 (⟨hr, rfl, rfl⟩ | ⟨s1, T1, tc1, hr, rfl, F1⟩)
        · have HRR := Aid.hid hr
          clear hr HR
          go_wp2_with fail
          go_ret2
          exact ⟨⟨none, Or.inr ⟨f, by omega, by rw [show ((q : Int)).toNat = q by omega]; exact HF.out, Or.inl ⟨HRR.out, rfl⟩⟩, rfl⟩, KZ.out⟩
        · have HRR := Aid.hid hr
          have td1 : ∀ j ∈ s1.td, j < f.ops.length := (FSt.reach_td hr (by simp [FSt.start]) (by simp [FSt.start])).2
          clear hr HR
          go_wp2_with fail
          go_loopw [7] (fun _ wr => ∃ (s : FSt) (T : Option Addr) (tc : Nat), Fs w wr wq.heap.size G1 G2 x f s T tc ∧ Hid (∀ r, Runs x f s r → Runs x f s1 r) ∧ Hid (∀ j ∈ s.td, j < f.ops.length)) (fun _ wr => Fl.mu wr wq.heap.size G1)
          case atStart => exact ⟨s1, T1, tc1, F1, Aid.hid fun _ h => h, Aid.hid td1⟩
          case round =>
            clear F1 td1
            obtain ⟨s, T, tc, F, RN, TD⟩ := hrel
            have a20 := F.has.cell 20 _ rfl
            have FH := Aid.hid F
            rcases List.eq_nil_or_concat s.td with ht | ⟨l, i, ht⟩
            · have a21 := F.has.cell 21 _ rfl
              have hl0 : s.td.length = 0 := by rw [ht]; rfl
              rw [hl0] at a20
              have HT := Aid.hid ht
              clear F ht hl0
              go_wp2_with fail
              go_ret2
              refine ⟨⟨some s.most, Or.inr ⟨f, by omega, by rw [show ((q : Int)).toNat = q by omega]; exact HF.out, Or.inr ⟨s1, HRR.out, RN.out _ (Runs.done HT.out)⟩⟩, rfl⟩, FH.out.below⟩
            · have ht2 : s.td = l ++ [i] := by rw [ht]; simp
              have hl1 : s.td.length = l.length + 1 := by rw [ht2]; simp
              obtain ⟨g, cap, hv, hg, hgs⟩ := F.td.form (by omega)
              obtain ⟨rfl, rfl⟩ : T = some ⟨g, 0, none⟩ ∧ tc = cap := by simpa using hv
              have hcl := F.td.cellAt l.length (by omega)
              have hu : (s.td.map fun n : Nat => Value.int .i64 (n : Int))[l.length]? = some (.int .i64 (i : Int)) := by rw [ht2]; simp
              rw [hu] at hcl
              have hcap := own_cap F.td
              have f20 := F.has.frozen 20
              have hroom := F.room
              have hcn : f.ops.length ≤ 1000 := hops
              have hll : l.length ≤ 1000 := by omega
              rw [hl1] at a20 hcap
              have hcap2 : l.length ≤ tc := by omega
              have HT := Aid.hid ht2
              have HI := Aid.hid (TD.out i (by rw [ht2]; simp))
              clear F ht ht2 hl1 hu hv hgs hg hroom
              go_wp2_with fail
              go_quiet (fail)
              go_wp2_with fail
              obtain ⟨wd, hwd⟩ : ∃ wd, World.drewN wr nq = wd := ⟨_, rfl⟩
              rw [hwd]
              have FD := Aid.hid (show Fs w wd wq.heap.size G1 G2 x f s (some ⟨g, 0, none⟩) tc by rw [← hwd]; exact FH.out.keep (Fl.drewN (Below.refl _ _) _))
              have MU : Hid (Fl.mu wr wq.heap.size G1 = s.mu) := Aid.hid FH.out.mu
              have a20 : wd.cell? _ = _ := FD.out.has.cell 20 _ rfl
              rw [show s.td.length = l.length + 1 by rw [HT.out]; simp] at a20
              have f20 := FD.out.has.frozen 20
              have HE := Aid.hid ((FD.out.pop l i HT.out).keep (Below.refl _ _).drew)
              obtain ⟨wp, hwp⟩ : ∃ wp, (wd.setCell ⟨wq.heap.size, 20, none⟩ (.slice (some ⟨g, 0, none⟩) l.length tc)).drew = wp := ⟨_, rfl⟩
              have HWP := Aid.hid hwp
              rw [hwp] at HE
              clear hwd FH hwp
              go_region
              rw [HWP.out]
              have HS := Aid.hid (step_is w wq.heap.size G1 G2 x f { s with td := l } (some ⟨g, 0, none⟩) tc i wp HE.out HI.out)
              clear a20 f20 hcl HWP
              go_wp2_with fail
              go_at_call 14
              refine HS.out.mono ?_
              rintro e w5 (⟨hr, rfl, hb5⟩ | ⟨s', T', tc', hr, rfl, F5⟩)
              · have HR5 := Aid.hid hr
                have HB5 := Aid.hid hb5
                clear hr hb5 HS
                go_wp2_with fail
                go_ret2
                exact ⟨⟨none, Or.inr ⟨f, by omega, by rw [show ((q : Int)).toNat = q by omega]; exact HF.out, Or.inr ⟨s1, HRR.out, RN.out _ (Runs.wrong HT.out HR5.out)⟩⟩, rfl⟩, HB5.out⟩
              · have HR5 := Aid.hid hr
                have HF5 := Aid.hid F5
                clear hr F5 HS
                go_wp2_with fail
                go_roundw
                case rel => exact ⟨s', T', tc', HF5.out, Aid.hid fun r h => RN.out r (Runs.more HT.out HR5.out h), Aid.hid (FSt.step_td HR5.out FD.out.len.1 (fun j hj => TD.out j (by rw [HT.out]; exact List.mem_append_left _ hj)))⟩
                case measure =>
                  rw [HF5.out.mu, MU.out]
                  have h1 := FSt.step_mu HR5.out
                  have h2 : s.td.length = l.length + 1 := by rw [HT.out]; simp
                  unfold FSt.mu at h1 ⊢
                  simp only at h1
                  omega
      · obtain ⟨Z, hZ⟩ : ∃ Z, ((((X.setCell ⟨wq.heap.size, 18, none⟩ (.slice (some ⟨X.heap.size + 1, 0, none⟩) f.ops.length f.ops.length)).setCell ⟨wq.heap.size, 19, none⟩ (.slice (some ⟨X.heap.size, 0, none⟩) f.ops.length f.ops.length)).alloc (.cells (Array.replicate f.ops.length (.string ⟨#[]⟩)) 9)).alloc (.cells (Array.replicate f.ops.length (.bool false)) 4)).drew = Z := ⟨_, rfl⟩
        rw [hZ]
        have hY : ((X.setCell ⟨wq.heap.size, 18, none⟩ (.slice (some ⟨X.heap.size + 1, 0, none⟩) f.ops.length f.ops.length)).setCell ⟨wq.heap.size, 19, none⟩ (.slice (some ⟨X.heap.size, 0, none⟩) f.ops.length f.ops.length)).heap.size = X.heap.size := by simp [World.setCell]
        have e1 : (List.replicate f.ops.length (Value.string ⟨#[]⟩)).toArray = Array.replicate f.ops.length _ := List.toArray_replicate ..
        have e2 : (List.replicate f.ops.length (Value.bool false)).toArray = Array.replicate f.ops.length _ := List.toArray_replicate ..
        have n1 : Aid.Has Z X.heap.size (List.replicate f.ops.length (Value.string ⟨#[]⟩)) 9 := by
          have h := Aid.Has.new ((X.setCell ⟨wq.heap.size, 18, none⟩ (.slice (some ⟨X.heap.size + 1, 0, none⟩) f.ops.length f.ops.length)).setCell ⟨wq.heap.size, 19, none⟩ (.slice (some ⟨X.heap.size, 0, none⟩) f.ops.length f.ops.length)) (List.replicate f.ops.length (Value.string ⟨#[]⟩)) 9
          rw [hY, e1] at h
          rw [← hZ]; exact (h.alloc _).drew
        have n2 : Aid.Has Z (X.heap.size + 1) (List.replicate f.ops.length (Value.bool false)) 4 := by
          have h := Aid.Has.new (((X.setCell ⟨wq.heap.size, 18, none⟩ (.slice (some ⟨X.heap.size + 1, 0, none⟩) f.ops.length f.ops.length)).setCell ⟨wq.heap.size, 19, none⟩ (.slice (some ⟨X.heap.size, 0, none⟩) f.ops.length f.ops.length)).alloc (.cells (Array.replicate f.ops.length (.string ⟨#[]⟩)) 9)) (List.replicate f.ops.length (Value.bool false)) 4
          rw [World.size_alloc, hY, e2] at h
          rw [← hZ]; exact h.drew
        have hbz := ((((HB0.out.set 18 (.slice (some ⟨X.heap.size + 1, 0, none⟩) f.ops.length f.ops.length)).set 19 (.slice (some ⟨X.heap.size, 0, none⟩) f.ops.length f.ops.length)).alloc (.cells (Array.replicate f.ops.length (.string ⟨#[]⟩)) 9)).alloc (.cells (Array.replicate f.ops.length (.bool false)) 4)).drew
        rw [hZ] at hbz
        have kz : Below w.heap.size w Z := by
          rw [← hZ]
          have h1 := (KX.out.setCell (p := ⟨wq.heap.size, 18, none⟩) KR.out.size (.slice (some ⟨X.heap.size + 1, 0, none⟩) f.ops.length f.ops.length)).setCell (p := ⟨wq.heap.size, 19, none⟩) KR.out.size (.slice (some ⟨X.heap.size, 0, none⟩) f.ops.length f.ops.length)
          exact ((h1.alloc h1.size (.cells (Array.replicate f.ops.length (.string ⟨#[]⟩)) 9)).alloc (h1.alloc h1.size _).size (.cells (Array.replicate f.ops.length (.bool false)) 4)).drew
        have lb := HB0.out.lt
        have KZ := Aid.hid kz
        have F0 : Fs w Z wq.heap.size (X.heap.size + 1) (X.heap.size) x f (FSt.start f) none 0 := by
          obtain ⟨hx, sm, fm, ml, hA⟩ := HIM.out
          have lw := KR.out.size
          refine ⟨?_, ?_, ?_, ⟨rfl, Or.inl ⟨rfl, rfl⟩⟩, ⟨by omega, by omega, by omega⟩, (fun p hp => by cases hp), ⟨lw, by omega, by omega⟩, kz, ⟨by simp [FSt.start], by simp [FSt.start]⟩, ?_, ?_, hx.more hB, sm, fm, ml⟩
          · rw [hA]; simpa [FSt.start] using hbz
          · simpa [FSt.start] using n2
          · simpa [FSt.start, Fl.e] using n1
          · intro u hu
            have : u = Fl.e := by simpa [FSt.start] using (List.eq_of_mem_replicate hu)
            subst this; decide
          · simp [FSt.start]
        replace F0 : ∃ G1 G2, Fs w Z wq.heap.size G1 G2 x f (FSt.start f) none 0 := ⟨_, _, F0⟩
        obtain ⟨G1, G2, F0⟩ := F0
        have HR := Aid.hid (reach_is w wq.heap.size G1 G2 x f (FSt.start f) none 0 0 ⟨#[]⟩ Z F0 (by decide))
        clear hZ hY e1 e2 n1 n2 hbz kz F0 lb m1 m2 a17 a18 a19 f18 f19 l1 HB0
        go_wp2_with fail
        go_at_call 13
        refine HR.out.mono ?_
        rintro e w4 (⟨hr, rfl, rfl⟩ | ⟨s1, T1, tc1, hr, rfl, F1⟩)
        · have HRR := Aid.hid hr
          clear hr HR
          go_wp2_with fail
          go_ret2
          exact ⟨⟨none, Or.inr ⟨f, by omega, by rw [show ((q : Int)).toNat = q by omega]; exact HF.out, Or.inl ⟨HRR.out, rfl⟩⟩, rfl⟩, KZ.out⟩
        · have HRR := Aid.hid hr
          have td1 : ∀ j ∈ s1.td, j < f.ops.length := (FSt.reach_td hr (by simp [FSt.start]) (by simp [FSt.start])).2
          clear hr HR
          go_wp2_with fail
          go_loopw [7] (fun _ wr => ∃ (s : FSt) (T : Option Addr) (tc : Nat), Fs w wr wq.heap.size G1 G2 x f s T tc ∧ Hid (∀ r, Runs x f s r → Runs x f s1 r) ∧ Hid (∀ j ∈ s.td, j < f.ops.length)) (fun _ wr => Fl.mu wr wq.heap.size G1)
          case atStart => exact ⟨s1, T1, tc1, F1, Aid.hid fun _ h => h, Aid.hid td1⟩
          case round =>
            clear F1 td1
            obtain ⟨s, T, tc, F, RN, TD⟩ := hrel
            have a20 := F.has.cell 20 _ rfl
            have FH := Aid.hid F
            rcases List.eq_nil_or_concat s.td with ht | ⟨l, i, ht⟩
            · have a21 := F.has.cell 21 _ rfl
              have hl0 : s.td.length = 0 := by rw [ht]; rfl
              rw [hl0] at a20
              have HT := Aid.hid ht
              clear F ht hl0
              go_wp2_with fail
              go_ret2
              refine ⟨⟨some s.most, Or.inr ⟨f, by omega, by rw [show ((q : Int)).toNat = q by omega]; exact HF.out, Or.inr ⟨s1, HRR.out, RN.out _ (Runs.done HT.out)⟩⟩, rfl⟩, FH.out.below⟩
            · have ht2 : s.td = l ++ [i] := by rw [ht]; simp
              have hl1 : s.td.length = l.length + 1 := by rw [ht2]; simp
              obtain ⟨g, cap, hv, hg, hgs⟩ := F.td.form (by omega)
              obtain ⟨rfl, rfl⟩ : T = some ⟨g, 0, none⟩ ∧ tc = cap := by simpa using hv
              have hcl := F.td.cellAt l.length (by omega)
              have hu : (s.td.map fun n : Nat => Value.int .i64 (n : Int))[l.length]? = some (.int .i64 (i : Int)) := by rw [ht2]; simp
              rw [hu] at hcl
              have hcap := own_cap F.td
              have f20 := F.has.frozen 20
              have hroom := F.room
              have hcn : f.ops.length ≤ 1000 := hops
              have hll : l.length ≤ 1000 := by omega
              rw [hl1] at a20 hcap
              have hcap2 : l.length ≤ tc := by omega
              have HT := Aid.hid ht2
              have HI := Aid.hid (TD.out i (by rw [ht2]; simp))
              clear F ht ht2 hl1 hu hv hgs hg hroom
              go_wp2_with fail
              go_quiet (fail)
              go_wp2_with fail
              obtain ⟨wd, hwd⟩ : ∃ wd, World.drewN wr nq = wd := ⟨_, rfl⟩
              rw [hwd]
              have FD := Aid.hid (show Fs w wd wq.heap.size G1 G2 x f s (some ⟨g, 0, none⟩) tc by rw [← hwd]; exact FH.out.keep (Fl.drewN (Below.refl _ _) _))
              have MU : Hid (Fl.mu wr wq.heap.size G1 = s.mu) := Aid.hid FH.out.mu
              have a20 : wd.cell? _ = _ := FD.out.has.cell 20 _ rfl
              rw [show s.td.length = l.length + 1 by rw [HT.out]; simp] at a20
              have f20 := FD.out.has.frozen 20
              have HE := Aid.hid ((FD.out.pop l i HT.out).keep (Below.refl _ _).drew)
              obtain ⟨wp, hwp⟩ : ∃ wp, (wd.setCell ⟨wq.heap.size, 20, none⟩ (.slice (some ⟨g, 0, none⟩) l.length tc)).drew = wp := ⟨_, rfl⟩
              have HWP := Aid.hid hwp
              rw [hwp] at HE
              clear hwd FH hwp
              go_region
              rw [HWP.out]
              have HS := Aid.hid (step_is w wq.heap.size G1 G2 x f { s with td := l } (some ⟨g, 0, none⟩) tc i wp HE.out HI.out)
              clear a20 f20 hcl HWP
              go_wp2_with fail
              go_at_call 14
              refine HS.out.mono ?_
              rintro e w5 (⟨hr, rfl, hb5⟩ | ⟨s', T', tc', hr, rfl, F5⟩)
              · have HR5 := Aid.hid hr
                have HB5 := Aid.hid hb5
                clear hr hb5 HS
                go_wp2_with fail
                go_ret2
                exact ⟨⟨none, Or.inr ⟨f, by omega, by rw [show ((q : Int)).toNat = q by omega]; exact HF.out, Or.inr ⟨s1, HRR.out, RN.out _ (Runs.wrong HT.out HR5.out)⟩⟩, rfl⟩, HB5.out⟩
              · have HR5 := Aid.hid hr
                have HF5 := Aid.hid F5
                clear hr F5 HS
                go_wp2_with fail
                go_roundw
                case rel => exact ⟨s', T', tc', HF5.out, Aid.hid fun r h => RN.out r (Runs.more HT.out HR5.out h), Aid.hid (FSt.step_td HR5.out FD.out.len.1 (fun j hj => TD.out j (by rw [HT.out]; exact List.mem_append_left _ hj)))⟩
                case measure =>
                  rw [HF5.out.mu, MU.out]
                  have h1 := FSt.step_mu HR5.out
                  have h2 : s.td.length = l.length + 1 := by rw [HT.out]; simp
                  unfold FSt.mu at h1 ⊢
                  simp only at h1
                  omega
    · have hn2 : (x.codes.length : Int) ≤ n := by omega
      clear hbx k1
      go_enter Tryd.func8, Tryd.ntmps8
      try simp only [List.append_eq, List.cons_append, List.nil_append]
      go_wp2_with fail
      go_ret2
      exact ⟨⟨none, Or.inl ⟨by omega, rfl⟩, rfl⟩, K1.out⟩
end Go.Proofs.YtcgfabnmkbiogaaDoor
