/- OverBytes; awake. -/
import Derived.Test.YtaogegeidbclaaaGreatDoorImgCode
namespace Go.Proofs.YtaogegeidbclaaaGreatDoor
open Go.RowKit

set_option maxRecDepth 100000 in
set_option maxHeartbeats 2000000 in
theorem overBytes_is (A : Option Addr) (c base n : Nat) (xs : List Value) (w0 w : World) (hx : w.ownsRow base 5 1 (.slice A n c) n xs) (h1' : ∀ y ∈ xs, y.oneCell' = true) (lx : n ≤ 100000000000000) (hB : Below base w0 w) (hs : base ≤ w.heap.size) :
    Calls Tryz.prog 14 #[.slice A n c] w fun e w' => e = .returned (.tuple #[]) ∧ Below base w0 w' := by
  go_enter Tryz.func14, Tryz.ntmps14
  try simp only [List.append_eq, List.cons_append, List.nil_append]
  obtain ⟨i0, hi, hz0, hz1, hz2⟩ := info_parts info_byte
  go_wp2_with fail
  go_loopw [2] (fun i wr => ∃ (k : Nat) (ys : List Value), i = .int .i64 k ∧ k ≤ n ∧ (∀ y ∈ ys, y.oneCell' = true) ∧ wr.ownsRow base 5 1 (.slice A n c) n ys ∧ Below base w0 wr ∧ base ≤ wr.heap.size) (fun i _ => n - (intOf i).toNat)
  case atStart => exact ⟨0, _, rfl, Nat.zero_le _, h1', hx, hB, hs⟩
  case round =>
    obtain ⟨k, ys, rfl, hk, h1, hown, hb, hsz⟩ := hrel
    clear hx hB hs h1'
    by_cases hlt : k < n
    · obtain ⟨g, cap, hv, hg, hgs⟩ := hown.form (by omega)
      obtain ⟨rfl, rfl⟩ : A = some ⟨g, 0, none⟩ ∧ c = cap := by simpa using hv
      have hl : ys.length = n * 1 := hown.1
      have hst := hown.stored k (.int .u8 238)
      have HB2 := hb.grown hst.2 hsz (fun q hq => by cases hq; exact hg)
      have hc0 := hown.cellAt k (by omega)
      have hf := hown.frozenAt
      obtain ⟨u, hu⟩ : ∃ u, ys[k]? = some u := ⟨_, List.getElem?_eq_getElem (by omega)⟩
      rw [hu] at hc0
      go_wp2_with fail
      go_roundw
      case rel => exact ⟨k + 1, _, by go_num, by omega, (fun y hy => by
        rcases List.mem_or_eq_of_mem_set hy with h | h
        · exact h1 y h
        · subst h; rfl), hst.1, HB2, by simpa [World.setCell] using hsz⟩
      case measure => simp [intOf]; omega
    · have hnew := Aid.Has.new wr [.int .u8 238] 5
      have hr : Reads (wr.alloc (.cells #[.int .u8 238] 5)) (wr.alloc (.cells #[.int .u8 238] 5)).heap.size 1 (some ⟨wr.heap.size, 0, none⟩) 1 [.int .u8 238] := ⟨by simp, fun _ => ⟨⟨wr.heap.size, 0, none⟩, rfl, by simp [World.size_alloc], fun j u hj => by
        rw [Go.WideShapes.add_plain, Nat.zero_add]; exact hnew.cell j u hj⟩⟩
      have hbs : base ≤ (wr.alloc (.cells #[.int .u8 238] 5)).heap.size := by simp; omega
      have HB1 := hb.alloc hsz (.cells #[.int .u8 238] 5)
      go_wp2_with (at_builtin; refine wpList_append_any _ rfl _ _ 32 rfl base 5 i0 (.int .u8 0) 1 1 Tryz.underlying32 hi hz0 hz1 hz2 rfl (by decide) _ _ _ rfl (hown.alloc _) _ (some ⟨wr.heap.size, 0, none⟩) 1 1 [.int .u8 238] rfl hr ?d1 ?d2 ?d3 hbs ?_)
      case d1 => intro u hu; simp at hu; subst hu; rfl
      case d2 => unfold maxLen; omega
      case d3 => omega
      intro v9 w9 ho9 hg9 _
      have FB := HB1.grown hg9 hbs (fun q hq => (hown.lt q hq).1)
      have HF := Aid.hid FB
      clear FB HB1 hbs hr hnew hown hb ho9 hg9
      go_wp2_with fail
      go_end0
      exact ⟨rfl, HF.out⟩
/-- The image of awake. -/
def Img.seven : Img := ⟨none, [], 0, none, [], 0, none, [], 0, none, [], 0, ⟨#[]⟩, none, [], 0, none, [], 0, none, [], 0, none, [], 0, none, [], 0, 7, 0⟩
theorem Img.seven_at (w : World) : Img.At w w.heap.size Img.seven :=
  ⟨⟨Nat.zero_le _, Rows.nil_ _ _ _ _, by simp [Img.seven]⟩, ⟨Nat.zero_le _, Rows.nil_ _ _ _ _, by simp [Img.seven]⟩, ⟨Nat.zero_le _, Rows.nil_ _ _ _ _, by simp [Img.seven]⟩, ⟨Nat.zero_le _, Rows.nil_ _ _ _ _⟩, ⟨Nat.zero_le _, Rows.nil_ _ _ _ _⟩, ⟨Nat.zero_le _, Rows.nil_ _ _ _ _⟩, ⟨Nat.zero_le _, Rows.nil_ _ _ _ _⟩, ⟨Nat.zero_le _, Rows.nil_ _ _ _ _⟩, ⟨Nat.zero_le _, Rows.nil_ _ _ _ _⟩⟩
theorem Img.seven_len : (Pc.img Img.seven).b.length = 57 := by
  simp only [Pc.img, Pc.len, Pc.list, Pc.text, Pc.ints, Wt.chars_len]; rfl
theorem Img.seven_ok : (Pc.img Img.seven).x = false := by decide
theorem Pc.img_long (v : Img) : 4 ≤ (Pc.img v).b.length := by
  have h3 : (Pc.many (Pc.mark.size : Int)).b.length = 4 := rfl
  rw [Pc.img_body, Pc.len, Pc.text, Pc.len, h3]; omega
set_option maxRecDepth 100000 in
set_option maxHeartbeats 2000000 in
theorem awake_is (w : World) (hg : Door w) : Calls Tryz.prog 7 #[] w fun e w' => e = .returned (.bool true) ∧ Below w.heap.size w w' := by
  have HL := Aid.hid (lay_is Img.seven w (Img.seven_at w) (by rw [Img.seven_len]; decide))
  have HG := Aid.hid hg
  clear hg
  go_enter Tryz.func7, Tryz.ntmps7
  try simp only [List.append_eq, List.cons_append, List.nil_append]
  go_wp2_with fail
  go_at_call 8
  refine HL.out.mono ?_
  rintro e w1 ⟨hb1, hl⟩
  clear HL
  rcases hl with ⟨hx, _⟩ | ⟨hx, A, c, rfl, ho⟩
  · rw [Img.seven_ok] at hx; cases hx
  have hc : (Pc.img Img.seven).b.length ≤ c := by
    rcases ho.2 with ⟨h1, h2⟩ | ⟨g, cap, cur, h1, _, _, h2, _⟩
    · rw [Img.seven_len] at h2; cases h2
    · cases h1; exact h2
  have HR := Aid.hid (read_is w1.heap.size A c (Pc.img Img.seven).b w1 (Reads.of_own ho) (Nat.le_refl _) hc (Byt.img _))
  have B1 := Aid.hid hb1
  have HL57 : (Pc.img Img.seven).b.length = 57 := Img.seven_len
  clear hx ho hb1 hc
  rw [HL57] at HR ⊢
  clear HL57
  go_wp2_with fail
  go_at_call 16
  refine HR.out.mono ?_
  rintro e w2 ⟨hb2, hr⟩
  clear HR
  obtain ⟨v, rfl, ha, _, hv1, hv2, hv3⟩ := hr.resolve_right (fun ⟨b, _, _, _, hno⟩ => hno Img.seven rfl Img.seven_ok)
  have hq := (hv3 Img.seven [] (bs_nil rfl) Img.seven_ok).2
  have hd : v.d = 7 := by
    simp only [Img.eqb, Bool.and_eq_true, decide_eq_true_eq] at hq
    exact hq.1.2
  have HQ := Aid.hid hq
  have HA := Aid.hid ha
  have B2 := Aid.hid (B1.out.trans (hb2.mono B1.out.size))
  have BX := Aid.hid (Aid.Has.new w2 [.slice v.fA v.faces.length v.fc, .slice v.cA v.classes.length v.cc, .slice v.dA v.codes.length v.dc, .slice v.nA v.insts.length v.nc, .string v.globals, .slice v.iA v.init.length v.ic, .slice v.bA v.blocks.length v.bc, .slice v.xA v.ins.length v.xc, .slice v.oA v.outs.length v.oc, .slice v.jA v.jobs.length v.jc, .int .i64 v.d, .int .i64 v.w] 29)
  obtain ⟨w3, hw3⟩ : ∃ w3, w2.alloc (.cells #[.slice v.fA v.faces.length v.fc, .slice v.cA v.classes.length v.cc, .slice v.dA v.codes.length v.dc, .slice v.nA v.insts.length v.nc, .string v.globals, .slice v.iA v.init.length v.ic, .slice v.bA v.blocks.length v.bc, .slice v.xA v.ins.length v.xc, .slice v.oA v.outs.length v.oc, .slice v.jA v.jobs.length v.jc, .int .i64 v.d, .int .i64 v.w] 29) = w3 := ⟨_, rfl⟩
  have k3 : Below w2.heap.size w2 w3 := by subst hw3; exact (Below.refl _ _).alloc (Nat.le_refl _) _
  have BX3 : Hid (Aid.Has w3 w2.heap.size [.slice v.fA v.faces.length v.fc, .slice v.cA v.classes.length v.cc, .slice v.dA v.codes.length v.dc, .slice v.nA v.insts.length v.nc, .string v.globals, .slice v.iA v.init.length v.ic, .slice v.bA v.blocks.length v.bc, .slice v.xA v.ins.length v.xc, .slice v.oA v.outs.length v.oc, .slice v.jA v.jobs.length v.jc, .int .i64 v.d, .int .i64 v.w] 29) := Aid.hid (by subst hw3; exact BX.out)
  have HR := Aid.hid (read_is 0 none 0 [] w3 Reads.none_ (Nat.zero_le _) (Nat.le_refl _) (by simp))
  have B3 := Aid.hid (B2.out.trans (k3.mono B2.out.size))
  have K3 := Aid.hid k3
  have HD := Aid.hid hd
  clear hv1 hv2 hv3 hq ha hb2 BX k3 hd
  subst hw3
  go_wp2_with fail
  go_at_call 16
  refine HR.out.mono ?_
  rintro e w4 ⟨hb4, hr⟩
  clear HR
  rcases hr with ⟨u, _, _, _, hu, _⟩ | ⟨b, rfl, hbl, hwr, _⟩
  · have := Pc.img_long u; rw [hu] at this; simp at this
  have hbb : b < w4.heap.size := Aid.Has.lt hwr
  have BX4 : Hid (Aid.Has w4 w2.heap.size [.slice v.fA v.faces.length v.fc, .slice v.cA v.classes.length v.cc, .slice v.dA v.codes.length v.dc, .slice v.nA v.insts.length v.nc, .string v.globals, .slice v.iA v.init.length v.ic, .slice v.bA v.blocks.length v.bc, .slice v.xA v.ins.length v.xc, .slice v.oA v.outs.length v.oc, .slice v.jA v.jobs.length v.jc, .int .i64 v.d, .int .i64 v.w] 29) := Aid.hid (BX3.out.below hb4 BX3.out.lt)
  have B4 := Aid.hid (B3.out.trans (hb4.mono B3.out.size))
  have k5 : Below w4.heap.size w4 (w4.alloc (.cells #[.slice none 0 0, .slice none 0 0, .slice none 0 0, .slice none 0 0, .string ⟨#[]⟩, .slice none 0 0, .slice none 0 0, .slice none 0 0, .slice none 0 0, .slice none 0 0, .int .i64 0, .int .i64 0] 29)) := (Below.refl _ _).alloc (Nat.le_refl _) _
  have HC := Aid.hid (code_is b 19 (w4.alloc (.cells #[.slice none 0 0, .slice none 0 0, .slice none 0 0, .slice none 0 0, .string ⟨#[]⟩, .slice none 0 0, .slice none 0 0, .slice none 0 0, .slice none 0 0, .slice none 0 0, .int .i64 0, .int .i64 0] 29)) ((HG.out.below B4.out).below k5) (Aid.Has.below hwr k5 hbb))
  have A4 : Hid (Img.At w4 w4.heap.size v) := Aid.hid (((HA.out.below K3.out (Nat.le_refl _)).more K3.out.size |>.below hb4 (Nat.le_refl _)).more hb4.size)
  have BX5 : Hid (Aid.Has (w4.alloc (.cells #[.slice none 0 0, .slice none 0 0, .slice none 0 0, .slice none 0 0, .string ⟨#[]⟩, .slice none 0 0, .slice none 0 0, .slice none 0 0, .slice none 0 0, .slice none 0 0, .int .i64 0, .int .i64 0] 29)) w2.heap.size [.slice v.fA v.faces.length v.fc, .slice v.cA v.classes.length v.cc, .slice v.dA v.codes.length v.dc, .slice v.nA v.insts.length v.nc, .string v.globals, .slice v.iA v.init.length v.ic, .slice v.bA v.blocks.length v.bc, .slice v.xA v.ins.length v.xc, .slice v.oA v.outs.length v.oc, .slice v.jA v.jobs.length v.jc, .int .i64 v.d, .int .i64 v.w] 29) := Aid.hid (BX4.out.alloc _)
  have x10 := BX5.out.cell 10 _ rfl
  rw [HD.out] at x10
  have B5 := Aid.hid (B4.out.trans (k5.mono B4.out.size))
  have A5 : Hid (Img.At (w4.alloc (.cells #[.slice none 0 0, .slice none 0 0, .slice none 0 0, .slice none 0 0, .string ⟨#[]⟩, .slice none 0 0, .slice none 0 0, .slice none 0 0, .slice none 0 0, .slice none 0 0, .int .i64 0, .int .i64 0] 29)) (w4.alloc (.cells #[.slice none 0 0, .slice none 0 0, .slice none 0 0, .slice none 0 0, .string ⟨#[]⟩, .slice none 0 0, .slice none 0 0, .slice none 0 0, .slice none 0 0, .slice none 0 0, .int .i64 0, .int .i64 0] 29)).heap.size v) := Aid.hid ((A4.out.below k5 (Nat.le_refl _)).more k5.size)
  clear hwr hb4 k5 hbb
  go_wp2_with fail
  go_at_call 11
  refine HC.out.mono ?_
  rintro e w6 ⟨rfl, hb6⟩
  clear HC x10
  have BX6 := BX5.out.below hb6 BX5.out.lt
  have x0 := BX6.cell 0 _ rfl
  have x1 := BX6.cell 1 _ rfl
  have x2 := BX6.cell 2 _ rfl
  have x3 := BX6.cell 3 _ rfl
  have x4 := BX6.cell 4 _ rfl
  have x5 := BX6.cell 5 _ rfl
  have x6 := BX6.cell 6 _ rfl
  have x7 := BX6.cell 7 _ rfl
  have x8 := BX6.cell 8 _ rfl
  have x9 := BX6.cell 9 _ rfl
  have x10 := BX6.cell 10 _ rfl
  have x11 := BX6.cell 11 _ rfl
  have HS := Aid.hid (same_is w6.heap.size w6.heap.size v Img.seven w6 ((A5.out.below hb6 (Nat.le_refl _)).more hb6.size) (Img.seven_at w6) (Nat.le_refl _) (Nat.le_refl _))
  have B6 := Aid.hid (B5.out.trans (hb6.mono B5.out.size))
  have HQ2 : Hid (Img.eqb v Img.seven = true) := HQ
  clear BX6 hb6 BX3 BX4 BX5
  go_wp2_with fail
  go_at_call 12
  refine HS.out.mono ?_
  rintro e w7 ⟨rfl, hb7⟩
  have B7 := Aid.hid (B6.out.trans (hb7.mono B6.out.size))
  rw [HQ2.out]
  clear hb7 HS x0 x1 x2 x3 x4 x5 x6 x7 x8 x9 x10 x11
  go_wp2_with fail
  go_ret
  exact ⟨rfl, B7.out⟩
end Go.Proofs.YtaogegeidbclaaaGreatDoor
