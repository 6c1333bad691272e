/- The program's Read. -/
import Derived.Test.YtaogegeidbclaaaGreatDoorImgPlain
import Derived.Laws.ResultCell
import Derived.Deep.Cut
namespace Go.Proofs.YtaogegeidbclaaaGreatDoor
open Go.RowKit

theorem results_row2 {P : Program} {fn : Func} {p u : Tmp} {ty : TypeId} (h : fn.results = #[.cell p ty, .tmp u]) (tmps : Array Value) (w : World) (g : Nat) (t : TypeId) (cs : Array Value) (fr : Nat × Nat) (d : TypeDesc)
    (x : Value) (hp : tmps.getD p undef = .pointer (some ⟨g, 0, none⟩)) (hx : tmps.getD u undef = x) (hg : w.heap[g]? = some (.cells cs t fr))
    (hu : P.underlying ty = some d) (hd : (match d with | .struct _ | .array _ _ => true | _ => false) = true) (hi : (P.info? ty).map (·.size) = some cs.size) :
    (results fn tmps).run P w = .ok (.tuple #[.agg cs, x]) w := by
  rw [results_cell_tmp h, hp, hx]
  simp only [asAddr, Sem.run_pure, Result.andThen]
  rw [run_loadVar_row w g t ty cs fr d hg hu hd hi]
theorem kc_row2 {a b : World} {g m : Nat} (h : Below a.heap.size a b) (hm : g + 1 ≤ m) (cs : Array Value) : Kc (fresh a m) (b.setRow g cs) := fun x u hu => by
  obtain ⟨h1, h2, h3⟩ := wipe_cell hu
  simp only [decide_eq_false_iff_not] at h1
  rw [World.cell?_of_block ((row_heap b g cs _ (by omega)).trans (h.block _ h2))]; exact h3
set_option maxRecDepth 100000 in
set_option maxHeartbeats 1000000 in
theorem bytesEq_is (A C : Option Addr) (c d B B' : Nat) (xs ys : List Int) (w : World) (hx : Reads w B 1 A xs.length (xs.map (Value.int .u8))) (hy : Reads w B' 1 C ys.length (ys.map (Value.int .u8))) :
    Calls Tryz.prog 45 #[.slice A xs.length c, .slice C ys.length d] w fun e w' => e = .returned (.bool ((strOfNums xs).toList == (strOfNums ys).toList)) ∧ w = w' := by
  have h1 := Rd.str w B A xs c hx
  have h2 := Rd.str w B' C ys d hy
  clear hx hy
  go_enter Tryz.func45, Tryz.ntmps45
  try simp only [List.append_eq, List.cons_append, List.nil_append]
  go_wp2_with fail
  go_ret
  exact ⟨rfl, rfl⟩
theorem mark_list : (Pc.mark.toList == [103, 111, 118, 45, 49]) = true := by rw [ByteArray.toList_eq]; rfl
def ReadP (bs : List Int) (B : Nat) (e : Ending) (w' : World) : Prop :=
  (∃ v : Img, e = .returned (.tuple #[.agg #[.slice v.fA v.faces.length v.fc, .slice v.cA v.classes.length v.cc, .slice v.dA v.codes.length v.dc, .slice v.nA v.insts.length v.nc, .string v.globals, .slice v.iA v.init.length v.ic, .slice v.bA v.blocks.length v.bc, .slice v.xA v.ins.length v.xc, .slice v.oA v.outs.length v.oc, .slice v.jA v.jobs.length v.jc, .int .i64 v.d, .int .i64 v.w], .nilIface]) ∧ Img.At w' w'.heap.size v ∧ v.Small ∧ (Pc.img v).b = bs ∧ (Pc.img v).x = false ∧ ∀ (u : Img) (t : List Int), bs = (Pc.img u).b ++ t → (Pc.img u).x = false → t = [] ∧ Img.eqb v u = true) ∨
  (∃ b, e = .returned (.tuple #[.agg #[.slice none 0 0, .slice none 0 0, .slice none 0 0, .slice none 0 0, .string ⟨#[]⟩, .slice none 0 0, .slice none 0 0, .slice none 0 0, .slice none 0 0, .slice none 0 0, .int .i64 0, .int .i64 0], .iface 113 (.pointer (some ⟨b, 0, none⟩))]) ∧ B ≤ b ∧ Wrong w' b 19 ∧ ∀ v : Img, (Pc.img v).b = bs → (Pc.img v).x = false → False)
/-- What is left behind the mark, if all goes well. -/
def Behind (bs : List Int) (s : St) : Prop := ∀ (v : Img) (t : List Int), bs = (Pc.img v).b ++ t → (Pc.img v).x = false → s = ⟨(Pc.body v).b ++ t, false⟩
theorem Behind.of {bs : List Int} {t : ByteArray} {s1 : St} (h : Got Pc.text (fun u => t = u) ⟨bs, false⟩ s1) : (∀ (v : Img) (r : List Int), bs = (Pc.img v).b ++ r → (Pc.img v).x = false → t = Pc.mark) ∧ Behind bs s1 := by
  have : ∀ (v : Img) (r : List Int), bs = (Pc.img v).b ++ r → (Pc.img v).x = false → t = Pc.mark ∧ s1 = ⟨(Pc.body v).b ++ r, false⟩ := fun v r h1 h2 => by
    rw [Pc.img_body] at h1 h2
    have h3 : (Pc.text Pc.mark).x = false ∧ (Pc.body v).x = false := by simpa [Pc.app_def] using h2
    exact h Pc.mark ((Pc.body v).b ++ r) rfl (by rw [h1]; simp [Pc.app_def, List.append_assoc]) h3.1
  exact ⟨fun v r h1 h2 => (this v r h1 h2).1, fun v r h1 h2 => (this v r h1 h2).2⟩
theorem Behind.got {bs : List Int} {s s2 : St} {x : Img} (h : Behind bs s) (g : Got Pc.body (fun u => Img.eqb x u = true) s s2) (v : Img) (t : List Int) (h1 : bs = (Pc.img v).b ++ t) (h2 : (Pc.img v).x = false) : Img.eqb x v = true ∧ Pc.img x = Pc.img v ∧ s2 = ⟨t, false⟩ := by
  have e := h v t h1 h2
  have h3 : (Pc.text Pc.mark).x = false ∧ (Pc.body v).x = false := by rw [Pc.img_body] at h2; simpa [Pc.app_def] using h2
  obtain ⟨r, q⟩ := g v t (by rw [e]) (by rw [e]) h3.2
  exact ⟨r, Pc.img_eqb r, q⟩
theorem bs_nil {bs : List Int} {v : Img} (h : (Pc.img v).b = bs) : bs = (Pc.img v).b ++ [] := by rw [List.append_nil]; exact h.symm
set_option maxRecDepth 100000 in
set_option maxHeartbeats 2000000 in
theorem read_is (B : Nat) (A : Option Addr) (c : Nat) (bs : List Int) (w : World) (hr : Reads w B 1 A bs.length (bs.map (Value.int .u8))) (hB : B ≤ w.heap.size) (hc : bs.length ≤ c) (hy : ∀ y ∈ bs, 0 ≤ y ∧ y < 256) :
    Calls Tryz.prog 16 #[.slice A bs.length c] w fun e w' => Below w.heap.size w w' ∧ ReadP bs w.heap.size e w' := by
  obtain ⟨W, hW⟩ : ∃ W, ((w.alloc (.cells #[.slice none 0 0, .slice none 0 0, .slice none 0 0, .slice none 0 0, .string ⟨#[]⟩, .slice none 0 0, .slice none 0 0, .slice none 0 0, .slice none 0 0, .slice none 0 0, .int .i64 0, .int .i64 0] 29)).alloc (.cells #[.slice A bs.length c, .bool false] 92)) = W := ⟨_, rfl⟩
  have hq0 : Aid.Has W w.heap.size [.slice none 0 0, .slice none 0 0, .slice none 0 0, .slice none 0 0, .string ⟨#[]⟩, .slice none 0 0, .slice none 0 0, .slice none 0 0, .slice none 0 0, .slice none 0 0, .int .i64 0, .int .i64 0] 29 := by subst hW; exact (Aid.Has.new w [.slice none 0 0, .slice none 0 0, .slice none 0 0, .slice none 0 0, .string ⟨#[]⟩, .slice none 0 0, .slice none 0 0, .slice none 0 0, .slice none 0 0, .slice none 0 0, .int .i64 0, .int .i64 0] 29).alloc _
  have b0 : Below w.heap.size w W := by subst hW; exact ((Below.refl _ w).alloc (Nat.le_refl _) _).alloc (by simp) _
  have i0 : Rd.Is W 92 (w.heap.size + 1) ⟨bs, false⟩ := by
    have h1 := Aid.Has.new (w.alloc (.cells #[.slice none 0 0, .slice none 0 0, .slice none 0 0, .slice none 0 0, .string ⟨#[]⟩, .slice none 0 0, .slice none 0 0, .slice none 0 0, .slice none 0 0, .slice none 0 0, .int .i64 0, .int .i64 0] 29)) [.slice A bs.length c, .bool false] 92
    rw [World.size_alloc] at h1
    exact ⟨A, c, by subst hW; exact h1, hc, (hr.below (b0.mono hB)).more (by omega), hy⟩
  have sz0 : w.heap.size + 2 ≤ W.heap.size := by subst hW; simp
  have HC := Aid.hid (text_is (w.heap.size + 1) ⟨bs, false⟩ W i0)
  have Q0 := Aid.hid hq0
  have B0 := Aid.hid b0
  have HR := Aid.hid hr
  have HY := Aid.hid hy
  have SZ0 := Aid.hid sz0
  clear hq0 b0 i0 hr hy sz0
  subst hW
  go_enter Tryz.func16, Tryz.ntmps16
  try simp only [List.append_eq, List.cons_append, List.nil_append]
  go_wp2_with fail
  go_at_call 43
  refine HC.out.mono ?_
  rintro e w1 ⟨t, s1, rfl, _, h2, h3, h4⟩
  clear HC
  obtain ⟨hmk, hbh⟩ := Behind.of h4
  have HM := Aid.hid hmk
  have I1 := Aid.hid h2; have K1 := Aid.hid h3; have BH := Aid.hid hbh
  have hp1 := h2.lt
  obtain ⟨B1, d1, q1, q2, q3, q4⟩ := h2
  have p1 := q1.cell 1 _ rfl
  have pf := q1.frozen
  clear h3 h4 hmk hbh q1 q2 q3 q4
  go_upto_if 13 with fail
  go_cut [] from 11 (fun wx => ∃ s2 : St, Hid (Rd.Is wx 92 (w.heap.size + 1) s2) ∧ Hid (Keep (w.heap.size + 1) ((w.alloc (.cells #[.slice none 0 0, .slice none 0 0, .slice none 0 0, .slice none 0 0, .string ⟨#[]⟩, .slice none 0 0, .slice none 0 0, .slice none 0 0, .slice none 0 0, .slice none 0 0, .int .i64 0, .int .i64 0] 29)).alloc (.cells #[.slice A bs.length c, .bool false] 92)) wx) ∧ Hid (Behind bs s2))
  case first =>
    cases g : (t.toList == [103, 111, 118, 45, 49])
    · go_wp2_with fail
      go_meet
      exact ⟨⟨s1.b, true⟩, Aid.hid (I1.out.bad true), Aid.hid (K1.out.trans (Keep.set _ _ 1 _)), Aid.hid (fun v r h1 h2 => by rw [HM.out v r h1 h2] at g; exact absurd g (by rw [mark_list]; decide))⟩
    · go_wp2_with fail
      go_meet
      exact ⟨s1, I1, K1, BH⟩
  case rest =>
    obtain ⟨s2, I2, K2, B2⟩ := hcut
    clear I1 K1 BH HM p1 pf hp1
    have HC := Aid.hid (image_el (w.heap.size + 1) s2 wc I2.out)
    go_wp2_with fail
    go_at_call 44
    refine HC.out.mono ?_
    rintro e w2 ⟨x, s3, rfl, h1, h2, h3, h4, h5⟩
    clear HC
    have KW : Keep (w.heap.size + 1) ((w.alloc (.cells #[.slice none 0 0, .slice none 0 0, .slice none 0 0, .slice none 0 0, .string ⟨#[]⟩, .slice none 0 0, .slice none 0 0, .slice none 0 0, .slice none 0 0, .slice none 0 0, .int .i64 0, .int .i64 0] 29)).alloc (.cells #[.slice A bs.length c, .bool false] 92)) w2 := K2.out.trans h4
    have szw : w.heap.size + 2 ≤ w2.heap.size := Nat.le_trans SZ0.out KW.size
    have hx2 : Img.At w2 w2.heap.size x := h2.kc (Kc.unwipe _ _) (Nat.le_refl _)
    have k3 : Below w2.heap.size w2 (w2.alloc (.cells #[.slice x.fA x.faces.length x.fc, .slice x.cA x.classes.length x.cc, .slice x.dA x.codes.length x.dc, .slice x.nA x.insts.length x.nc, .string x.globals, .slice x.iA x.init.length x.ic, .slice x.bA x.blocks.length x.bc, .slice x.xA x.ins.length x.xc, .slice x.oA x.outs.length x.oc, .slice x.jA x.jobs.length x.jc, .int .i64 x.d, .int .i64 x.w] 29)) := (Below.refl _ w2).alloc (Nat.le_refl _) _
    have HX := Aid.hid hx2
    have XF := Aid.hid h2
    have SZC : Hid (w.heap.size + 2 ≤ wc.heap.size) := Aid.hid (Nat.le_trans SZ0.out K2.out.size)
    have HS := Aid.hid h1
    have I3 := Aid.hid h3
    have G3 := Aid.hid h5
    have B3 : Hid (Below w.heap.size w w2) := Aid.hid (B0.out.trans ((KW.low (by have := SZ0.out; omega)).mono (by omega)))
    have Q3 : Hid (Aid.Has w2 w.heap.size [.slice none 0 0, .slice none 0 0, .slice none 0 0, .slice none 0 0, .string ⟨#[]⟩, .slice none 0 0, .slice none 0 0, .slice none 0 0, .slice none 0 0, .slice none 0 0, .int .i64 0, .int .i64 0] 29) := Aid.hid (KW.has (by omega) Q0.out)
    have HC := Aid.hid (lay_is x (w2.alloc (.cells #[.slice x.fA x.faces.length x.fc, .slice x.cA x.classes.length x.cc, .slice x.dA x.codes.length x.dc, .slice x.nA x.insts.length x.nc, .string x.globals, .slice x.iA x.init.length x.ic, .slice x.bA x.blocks.length x.bc, .slice x.xA x.ins.length x.xc, .slice x.oA x.outs.length x.oc, .slice x.jA x.jobs.length x.jc, .int .i64 x.d, .int .i64 x.w] 29)) ((hx2.below k3 (Nat.le_refl _)).more k3.size) h1.len)
    have HN := Aid.hid (Aid.Has.new w2 [.slice x.fA x.faces.length x.fc, .slice x.cA x.classes.length x.cc, .slice x.dA x.codes.length x.dc, .slice x.nA x.insts.length x.nc, .string x.globals, .slice x.iA x.init.length x.ic, .slice x.bA x.blocks.length x.bc, .slice x.xA x.ins.length x.xc, .slice x.oA x.outs.length x.oc, .slice x.jA x.jobs.length x.jc, .int .i64 x.d, .int .i64 x.w] 29)
    have K3 := Aid.hid k3
    have SZW := Aid.hid szw
    clear h1 h2 h3 h4 h5 KW szw hx2 k3 K2 I2
    go_wp2_with fail
    go_at_call 8
    refine HC.out.mono ?_
    rintro e w4 ⟨hb4, hl⟩
    clear HC
    have B4 : Hid (Below w.heap.size w w4) := Aid.hid ((B3.out.trans (K3.out.mono (by have := SZW.out; omega))).trans (hb4.mono (by have := SZW.out; simp; omega)))
    have HQ : Hid (Aid.Has w4 w.heap.size [.slice none 0 0, .slice none 0 0, .slice none 0 0, .slice none 0 0, .string ⟨#[]⟩, .slice none 0 0, .slice none 0 0, .slice none 0 0, .slice none 0 0, .slice none 0 0, .int .i64 0, .int .i64 0] 29) := Aid.hid ((Q3.out.below K3.out Q3.out.lt).below hb4 (by have := Q3.out.lt; simp; omega))
    have I4 : Hid (Rd.Is w4 92 (w.heap.size + 1) s3) := Aid.hid (I3.out.low ((K3.out.mono (by have := I3.out.lt; omega)).trans (hb4.mono (by have := I3.out.lt; simp; omega))))
    have BX : Hid (Aid.Has w4 w2.heap.size [.slice x.fA x.faces.length x.fc, .slice x.cA x.classes.length x.cc, .slice x.dA x.codes.length x.dc, .slice x.nA x.insts.length x.nc, .string x.globals, .slice x.iA x.init.length x.ic, .slice x.bA x.blocks.length x.bc, .slice x.xA x.ins.length x.xc, .slice x.oA x.outs.length x.oc, .slice x.jA x.jobs.length x.jc, .int .i64 x.d, .int .i64 x.w] 29) := Aid.hid (HN.out.below hb4 HN.out.lt)
    have X4 : Hid (Img.At w4 w4.heap.size x) := Aid.hid (((HX.out.below K3.out (Nat.le_refl _)).below hb4 K3.out.size).more (Nat.le_trans K3.out.size hb4.size))
    have R4 : Hid (Reads w4 w.heap.size 1 A bs.length (bs.map (Value.int .u8))) := Aid.hid ((HR.out.more hB).below B4.out)
    have SZ4 : Hid (w.heap.size + 2 ≤ w4.heap.size) := Aid.hid (Nat.le_trans SZW.out (Nat.le_trans K3.out.size hb4.size))
    have BG : Hid (∀ (v : Img) (t : List Int), bs = (Pc.img v).b ++ t → (Pc.img v).x = false → Img.eqb x v = true ∧ Pc.img x = Pc.img v ∧ s3 = ⟨t, false⟩) := Aid.hid (fun v t h1 h2 => B2.out.got G3.out v t h1 h2)
    have FX : Hid (∀ cs, Img.At (w4.setRow w.heap.size cs) (w4.setRow w.heap.size cs).heap.size x) := Aid.hid fun cs => XF.out.kc (kc_row2 (K3.out.trans (hb4.mono K3.out.size)) (by have := SZC.out; omega) cs) (by rw [row_size]; exact Nat.le_trans K3.out.size hb4.size)
    have hq4 := HQ.out.lt
    have END : Hid ((∀ v : Img, (Pc.img v).b = bs → (Pc.img v).x = false → False) → Below w.heap.size w ((w4.alloc (.cells #[.int .i64 19, .int .i64 0, .nilIface] 115)).setRow w.heap.size #[.slice none 0 0, .slice none 0 0, .slice none 0 0, .slice none 0 0, .string ⟨#[]⟩, .slice none 0 0, .slice none 0 0, .slice none 0 0, .slice none 0 0, .slice none 0 0, .int .i64 0, .int .i64 0]) ∧ ReadP bs w.heap.size (.returned (.tuple #[.agg #[.slice none 0 0, .slice none 0 0, .slice none 0 0, .slice none 0 0, .string ⟨#[]⟩, .slice none 0 0, .slice none 0 0, .slice none 0 0, .slice none 0 0, .slice none 0 0, .int .i64 0, .int .i64 0], .iface 113 (.pointer (some ⟨w4.heap.size, 0, none⟩))])) ((w4.alloc (.cells #[.int .i64 19, .int .i64 0, .nilIface] 115)).setRow w.heap.size #[.slice none 0 0, .slice none 0 0, .slice none 0 0, .slice none 0 0, .string ⟨#[]⟩, .slice none 0 0, .slice none 0 0, .slice none 0 0, .slice none 0 0, .slice none 0 0, .int .i64 0, .int .i64 0])) := Aid.hid fun hno =>
      ⟨row_below (B4.out.alloc (by omega) _) (Nat.le_refl _) _, Or.inr ⟨w4.heap.size, rfl, by omega, (row_heap _ _ _ _ (by omega)).trans (Aid.Has.new w4 [.int .i64 19, .int .i64 0, .nilIface] 115), hno⟩⟩
    obtain ⟨B1, d1, q1, q2, q3, q4⟩ := I4.out
    have p0 := q1.cell 0 _ rfl
    have p1 := q1.cell 1 _ rfl
    clear q1 q2 q3 q4 hb4 B2 G3 HN K3 HX I3 B3 Q3
    rcases hl with ⟨hx, b, rfl, hb1, hw⟩ | ⟨hx, A2, c2, rfl, ho⟩
    · have NO := Aid.hid (END.out (fun v h1 h2 => by rw [(BG.out v [] (bs_nil h1) h2).2.1, h2] at hx; cases hx))
      clear hx hb1 hw
      cases hsx : s3.x
      · rw [hsx] at p1
        clear hsx
        by_cases hz : 0 < s3.b.length
        · go_wp2_with fail
          go_at_call 21
          refine (new_any 19 0 w4).mono ?_
          rintro e w5 ⟨rfl, rfl⟩
          have HB5 : (w4.alloc (.cells #[.int .i64 19, .int .i64 0, .nilIface] 115)).heap[w.heap.size]? = some (.cells #[.slice none 0 0, .slice none 0 0, .slice none 0 0, .slice none 0 0, .string ⟨#[]⟩, .slice none 0 0, .slice none 0 0, .slice none 0 0, .slice none 0 0, .slice none 0 0, .int .i64 0, .int .i64 0] 29 (0, 0)) := (Below.heap_alloc w4 _ _ HQ.out.lt).trans HQ.out
          go_wp2_with (refine wpList_store_row rfl 29 _ _ rfl w.heap.size #[.slice none 0 0, .slice none 0 0, .slice none 0 0, .slice none 0 0, .string ⟨#[]⟩, .slice none 0 0, .slice none 0 0, .slice none 0 0, .slice none 0 0, .slice none 0 0, .int .i64 0, .int .i64 0] rfl rfl 29 #[.slice none 0 0, .slice none 0 0, .slice none 0 0, .slice none 0 0, .string ⟨#[]⟩, .slice none 0 0, .slice none 0 0, .slice none 0 0, .slice none 0 0, .slice none 0 0, .int .i64 0, .int .i64 0] HB5 (by kernel_rfl) rfl (by simp [Value.oneCell']) ?_)
          refine bodyPost_ret (v := .tuple #[.agg #[.slice none 0 0, .slice none 0 0, .slice none 0 0, .slice none 0 0, .string ⟨#[]⟩, .slice none 0 0, .slice none 0 0, .slice none 0 0, .slice none 0 0, .slice none 0 0, .int .i64 0, .int .i64 0], .iface 113 (.pointer (some ⟨w4.heap.size, 0, none⟩))]) (results_row2 rfl _ _ w.heap.size 29 #[.slice none 0 0, .slice none 0 0, .slice none 0 0, .slice none 0 0, .string ⟨#[]⟩, .slice none 0 0, .slice none 0 0, .slice none 0 0, .slice none 0 0, .slice none 0 0, .int .i64 0, .int .i64 0] (0, 0) _ _ rfl rfl (row_has (ys := [.slice none 0 0, .slice none 0 0, .slice none 0 0, .slice none 0 0, .string ⟨#[]⟩, .slice none 0 0, .slice none 0 0, .slice none 0 0, .slice none 0 0, .slice none 0 0, .int .i64 0, .int .i64 0]) HB5) Tryz.underlying29 rfl (by kernel_rfl)) rfl ?_
          exact NO.out
        · go_wp2_with fail
          go_at_call 21
          refine (new_any 19 0 w4).mono ?_
          rintro e w5 ⟨rfl, rfl⟩
          have HB5 : (w4.alloc (.cells #[.int .i64 19, .int .i64 0, .nilIface] 115)).heap[w.heap.size]? = some (.cells #[.slice none 0 0, .slice none 0 0, .slice none 0 0, .slice none 0 0, .string ⟨#[]⟩, .slice none 0 0, .slice none 0 0, .slice none 0 0, .slice none 0 0, .slice none 0 0, .int .i64 0, .int .i64 0] 29 (0, 0)) := (Below.heap_alloc w4 _ _ HQ.out.lt).trans HQ.out
          go_wp2_with (refine wpList_store_row rfl 29 _ _ rfl w.heap.size #[.slice none 0 0, .slice none 0 0, .slice none 0 0, .slice none 0 0, .string ⟨#[]⟩, .slice none 0 0, .slice none 0 0, .slice none 0 0, .slice none 0 0, .slice none 0 0, .int .i64 0, .int .i64 0] rfl rfl 29 #[.slice none 0 0, .slice none 0 0, .slice none 0 0, .slice none 0 0, .string ⟨#[]⟩, .slice none 0 0, .slice none 0 0, .slice none 0 0, .slice none 0 0, .slice none 0 0, .int .i64 0, .int .i64 0] HB5 (by kernel_rfl) rfl (by simp [Value.oneCell']) ?_)
          refine bodyPost_ret (v := .tuple #[.agg #[.slice none 0 0, .slice none 0 0, .slice none 0 0, .slice none 0 0, .string ⟨#[]⟩, .slice none 0 0, .slice none 0 0, .slice none 0 0, .slice none 0 0, .slice none 0 0, .int .i64 0, .int .i64 0], .iface 113 (.pointer (some ⟨w4.heap.size, 0, none⟩))]) (results_row2 rfl _ _ w.heap.size 29 #[.slice none 0 0, .slice none 0 0, .slice none 0 0, .slice none 0 0, .string ⟨#[]⟩, .slice none 0 0, .slice none 0 0, .slice none 0 0, .slice none 0 0, .slice none 0 0, .int .i64 0, .int .i64 0] (0, 0) _ _ rfl rfl (row_has (ys := [.slice none 0 0, .slice none 0 0, .slice none 0 0, .slice none 0 0, .string ⟨#[]⟩, .slice none 0 0, .slice none 0 0, .slice none 0 0, .slice none 0 0, .slice none 0 0, .int .i64 0, .int .i64 0]) HB5) Tryz.underlying29 rfl (by kernel_rfl)) rfl ?_
          exact NO.out
      · rw [hsx] at p1
        clear hsx
        go_wp2_with fail
        go_at_call 21
        refine (new_any 19 0 w4).mono ?_
        rintro e w5 ⟨rfl, rfl⟩
        have HB5 : (w4.alloc (.cells #[.int .i64 19, .int .i64 0, .nilIface] 115)).heap[w.heap.size]? = some (.cells #[.slice none 0 0, .slice none 0 0, .slice none 0 0, .slice none 0 0, .string ⟨#[]⟩, .slice none 0 0, .slice none 0 0, .slice none 0 0, .slice none 0 0, .slice none 0 0, .int .i64 0, .int .i64 0] 29 (0, 0)) := (Below.heap_alloc w4 _ _ HQ.out.lt).trans HQ.out
        go_wp2_with (refine wpList_store_row rfl 29 _ _ rfl w.heap.size #[.slice none 0 0, .slice none 0 0, .slice none 0 0, .slice none 0 0, .string ⟨#[]⟩, .slice none 0 0, .slice none 0 0, .slice none 0 0, .slice none 0 0, .slice none 0 0, .int .i64 0, .int .i64 0] rfl rfl 29 #[.slice none 0 0, .slice none 0 0, .slice none 0 0, .slice none 0 0, .string ⟨#[]⟩, .slice none 0 0, .slice none 0 0, .slice none 0 0, .slice none 0 0, .slice none 0 0, .int .i64 0, .int .i64 0] HB5 (by kernel_rfl) rfl (by simp [Value.oneCell']) ?_)
        refine bodyPost_ret (v := .tuple #[.agg #[.slice none 0 0, .slice none 0 0, .slice none 0 0, .slice none 0 0, .string ⟨#[]⟩, .slice none 0 0, .slice none 0 0, .slice none 0 0, .slice none 0 0, .slice none 0 0, .int .i64 0, .int .i64 0], .iface 113 (.pointer (some ⟨w4.heap.size, 0, none⟩))]) (results_row2 rfl _ _ w.heap.size 29 #[.slice none 0 0, .slice none 0 0, .slice none 0 0, .slice none 0 0, .string ⟨#[]⟩, .slice none 0 0, .slice none 0 0, .slice none 0 0, .slice none 0 0, .slice none 0 0, .int .i64 0, .int .i64 0] (0, 0) _ _ rfl rfl (row_has (ys := [.slice none 0 0, .slice none 0 0, .slice none 0 0, .slice none 0 0, .string ⟨#[]⟩, .slice none 0 0, .slice none 0 0, .slice none 0 0, .slice none 0 0, .slice none 0 0, .int .i64 0, .int .i64 0]) HB5) Tryz.underlying29 rfl (by kernel_rfl)) rfl ?_
        exact NO.out
    · cases hsx : s3.x
      · rw [hsx] at p1
        clear hsx
        by_cases hz : 0 < s3.b.length
        · have NO := Aid.hid (END.out (fun v h1 h2 => by rw [(BG.out v [] (bs_nil h1) h2).2.2] at hz; simp at hz))
          clear hx ho
          go_wp2_with fail
          go_at_call 21
          refine (new_any 19 0 w4).mono ?_
          rintro e w5 ⟨rfl, rfl⟩
          have HB5 : (w4.alloc (.cells #[.int .i64 19, .int .i64 0, .nilIface] 115)).heap[w.heap.size]? = some (.cells #[.slice none 0 0, .slice none 0 0, .slice none 0 0, .slice none 0 0, .string ⟨#[]⟩, .slice none 0 0, .slice none 0 0, .slice none 0 0, .slice none 0 0, .slice none 0 0, .int .i64 0, .int .i64 0] 29 (0, 0)) := (Below.heap_alloc w4 _ _ HQ.out.lt).trans HQ.out
          go_wp2_with (refine wpList_store_row rfl 29 _ _ rfl w.heap.size #[.slice none 0 0, .slice none 0 0, .slice none 0 0, .slice none 0 0, .string ⟨#[]⟩, .slice none 0 0, .slice none 0 0, .slice none 0 0, .slice none 0 0, .slice none 0 0, .int .i64 0, .int .i64 0] rfl rfl 29 #[.slice none 0 0, .slice none 0 0, .slice none 0 0, .slice none 0 0, .string ⟨#[]⟩, .slice none 0 0, .slice none 0 0, .slice none 0 0, .slice none 0 0, .slice none 0 0, .int .i64 0, .int .i64 0] HB5 (by kernel_rfl) rfl (by simp [Value.oneCell']) ?_)
          refine bodyPost_ret (v := .tuple #[.agg #[.slice none 0 0, .slice none 0 0, .slice none 0 0, .slice none 0 0, .string ⟨#[]⟩, .slice none 0 0, .slice none 0 0, .slice none 0 0, .slice none 0 0, .slice none 0 0, .int .i64 0, .int .i64 0], .iface 113 (.pointer (some ⟨w4.heap.size, 0, none⟩))]) (results_row2 rfl _ _ w.heap.size 29 #[.slice none 0 0, .slice none 0 0, .slice none 0 0, .slice none 0 0, .string ⟨#[]⟩, .slice none 0 0, .slice none 0 0, .slice none 0 0, .slice none 0 0, .slice none 0 0, .int .i64 0, .int .i64 0] (0, 0) _ _ rfl rfl (row_has (ys := [.slice none 0 0, .slice none 0 0, .slice none 0 0, .slice none 0 0, .string ⟨#[]⟩, .slice none 0 0, .slice none 0 0, .slice none 0 0, .slice none 0 0, .slice none 0 0, .int .i64 0, .int .i64 0]) HB5) Tryz.underlying29 rfl (by kernel_rfl)) rfl ?_
          exact NO.out
        · have HE := Aid.hid (bytesEq_is A2 A c2 c w4.heap.size w.heap.size (Pc.img x).b bs w4 (Reads.of_own ho) R4.out)
          cases hr : ((strOfNums (Pc.img x).b).toList == (strOfNums bs).toList)
          · have NO := Aid.hid (END.out (fun v h1 h2 => by rw [(BG.out v [] (bs_nil h1) h2).2.1, h1] at hr; simp at hr))
            rw [hr] at HE
            clear hr hx ho
            go_wp2_with fail
            go_at_call 45
            refine HE.out.mono ?_
            rintro e w' ⟨rfl, rfl⟩
            clear HE
            go_wp2_with fail
            go_at_call 21
            refine (new_any 19 0 w4).mono ?_
            rintro e w5 ⟨rfl, rfl⟩
            have HB5 : (w4.alloc (.cells #[.int .i64 19, .int .i64 0, .nilIface] 115)).heap[w.heap.size]? = some (.cells #[.slice none 0 0, .slice none 0 0, .slice none 0 0, .slice none 0 0, .string ⟨#[]⟩, .slice none 0 0, .slice none 0 0, .slice none 0 0, .slice none 0 0, .slice none 0 0, .int .i64 0, .int .i64 0] 29 (0, 0)) := (Below.heap_alloc w4 _ _ HQ.out.lt).trans HQ.out
            go_wp2_with (refine wpList_store_row rfl 29 _ _ rfl w.heap.size #[.slice none 0 0, .slice none 0 0, .slice none 0 0, .slice none 0 0, .string ⟨#[]⟩, .slice none 0 0, .slice none 0 0, .slice none 0 0, .slice none 0 0, .slice none 0 0, .int .i64 0, .int .i64 0] rfl rfl 29 #[.slice none 0 0, .slice none 0 0, .slice none 0 0, .slice none 0 0, .string ⟨#[]⟩, .slice none 0 0, .slice none 0 0, .slice none 0 0, .slice none 0 0, .slice none 0 0, .int .i64 0, .int .i64 0] HB5 (by kernel_rfl) rfl (by simp [Value.oneCell']) ?_)
            refine bodyPost_ret (v := .tuple #[.agg #[.slice none 0 0, .slice none 0 0, .slice none 0 0, .slice none 0 0, .string ⟨#[]⟩, .slice none 0 0, .slice none 0 0, .slice none 0 0, .slice none 0 0, .slice none 0 0, .int .i64 0, .int .i64 0], .iface 113 (.pointer (some ⟨w4.heap.size, 0, none⟩))]) (results_row2 rfl _ _ w.heap.size 29 #[.slice none 0 0, .slice none 0 0, .slice none 0 0, .slice none 0 0, .string ⟨#[]⟩, .slice none 0 0, .slice none 0 0, .slice none 0 0, .slice none 0 0, .slice none 0 0, .int .i64 0, .int .i64 0] (0, 0) _ _ rfl rfl (row_has (ys := [.slice none 0 0, .slice none 0 0, .slice none 0 0, .slice none 0 0, .string ⟨#[]⟩, .slice none 0 0, .slice none 0 0, .slice none 0 0, .slice none 0 0, .slice none 0 0, .int .i64 0, .int .i64 0]) HB5) Tryz.underlying29 rfl (by kernel_rfl)) rfl ?_
            exact NO.out
          · have EQ : Hid ((Pc.img x).b = bs) := Aid.hid (str_inj (Byt.img x) HY.out hr)
            have HXX := Aid.hid hx
            rw [hr] at HE
            clear hr hx ho
            go_wp2_with fail
            go_at_call 45
            refine HE.out.mono ?_
            rintro e w' ⟨rfl, rfl⟩
            clear HE
            have z0 := BX.out.cell 0 _ rfl
            have z1 := BX.out.cell 1 _ rfl
            have z2 := BX.out.cell 2 _ rfl
            have z3 := BX.out.cell 3 _ rfl
            have z4 := BX.out.cell 4 _ rfl
            have z5 := BX.out.cell 5 _ rfl
            have z6 := BX.out.cell 6 _ rfl
            have z7 := BX.out.cell 7 _ rfl
            have z8 := BX.out.cell 8 _ rfl
            have z9 := BX.out.cell 9 _ rfl
            have z10 := BX.out.cell 10 _ rfl
            have z11 := BX.out.cell 11 _ rfl
            go_wp2_with (refine wpList_store_row rfl 29 _ _ rfl w.heap.size #[.slice x.fA x.faces.length x.fc, .slice x.cA x.classes.length x.cc, .slice x.dA x.codes.length x.dc, .slice x.nA x.insts.length x.nc, .string x.globals, .slice x.iA x.init.length x.ic, .slice x.bA x.blocks.length x.bc, .slice x.xA x.ins.length x.xc, .slice x.oA x.outs.length x.oc, .slice x.jA x.jobs.length x.jc, .int .i64 x.d, .int .i64 x.w] rfl rfl 29 #[.slice none 0 0, .slice none 0 0, .slice none 0 0, .slice none 0 0, .string ⟨#[]⟩, .slice none 0 0, .slice none 0 0, .slice none 0 0, .slice none 0 0, .slice none 0 0, .int .i64 0, .int .i64 0] HQ.out (by kernel_rfl) rfl (by simp [Value.oneCell']) ?_)
            refine bodyPost_ret (v := .tuple #[.agg #[.slice x.fA x.faces.length x.fc, .slice x.cA x.classes.length x.cc, .slice x.dA x.codes.length x.dc, .slice x.nA x.insts.length x.nc, .string x.globals, .slice x.iA x.init.length x.ic, .slice x.bA x.blocks.length x.bc, .slice x.xA x.ins.length x.xc, .slice x.oA x.outs.length x.oc, .slice x.jA x.jobs.length x.jc, .int .i64 x.d, .int .i64 x.w], .nilIface]) (results_row2 rfl _ _ w.heap.size 29 #[.slice x.fA x.faces.length x.fc, .slice x.cA x.classes.length x.cc, .slice x.dA x.codes.length x.dc, .slice x.nA x.insts.length x.nc, .string x.globals, .slice x.iA x.init.length x.ic, .slice x.bA x.blocks.length x.bc, .slice x.xA x.ins.length x.xc, .slice x.oA x.outs.length x.oc, .slice x.jA x.jobs.length x.jc, .int .i64 x.d, .int .i64 x.w] (0, 0) _ _ rfl rfl (row_has (ys := [.slice x.fA x.faces.length x.fc, .slice x.cA x.classes.length x.cc, .slice x.dA x.codes.length x.dc, .slice x.nA x.insts.length x.nc, .string x.globals, .slice x.iA x.init.length x.ic, .slice x.bA x.blocks.length x.bc, .slice x.xA x.ins.length x.xc, .slice x.oA x.outs.length x.oc, .slice x.jA x.jobs.length x.jc, .int .i64 x.d, .int .i64 x.w]) HQ.out) Tryz.underlying29 rfl (by kernel_rfl)) rfl ?_
            exact ⟨row_below B4.out (Nat.le_refl _) _, Or.inl ⟨x, rfl, FX.out _, HS.out, EQ.out, HXX.out, fun u t h1 h2 => ⟨by have h3 := (BG.out u t h1 h2).2.2; rw [h3] at hz; simpa using hz, (BG.out u t h1 h2).1⟩⟩⟩
      · have NO := Aid.hid (END.out (fun v h1 h2 => by rw [(BG.out v [] (bs_nil h1) h2).2.2] at hsx; cases hsx))
        rw [hsx] at p1
        clear hx ho hsx
        go_wp2_with fail
        go_at_call 21
        refine (new_any 19 0 w4).mono ?_
        rintro e w5 ⟨rfl, rfl⟩
        have HB5 : (w4.alloc (.cells #[.int .i64 19, .int .i64 0, .nilIface] 115)).heap[w.heap.size]? = some (.cells #[.slice none 0 0, .slice none 0 0, .slice none 0 0, .slice none 0 0, .string ⟨#[]⟩, .slice none 0 0, .slice none 0 0, .slice none 0 0, .slice none 0 0, .slice none 0 0, .int .i64 0, .int .i64 0] 29 (0, 0)) := (Below.heap_alloc w4 _ _ HQ.out.lt).trans HQ.out
        go_wp2_with (refine wpList_store_row rfl 29 _ _ rfl w.heap.size #[.slice none 0 0, .slice none 0 0, .slice none 0 0, .slice none 0 0, .string ⟨#[]⟩, .slice none 0 0, .slice none 0 0, .slice none 0 0, .slice none 0 0, .slice none 0 0, .int .i64 0, .int .i64 0] rfl rfl 29 #[.slice none 0 0, .slice none 0 0, .slice none 0 0, .slice none 0 0, .string ⟨#[]⟩, .slice none 0 0, .slice none 0 0, .slice none 0 0, .slice none 0 0, .slice none 0 0, .int .i64 0, .int .i64 0] HB5 (by kernel_rfl) rfl (by simp [Value.oneCell']) ?_)
        refine bodyPost_ret (v := .tuple #[.agg #[.slice none 0 0, .slice none 0 0, .slice none 0 0, .slice none 0 0, .string ⟨#[]⟩, .slice none 0 0, .slice none 0 0, .slice none 0 0, .slice none 0 0, .slice none 0 0, .int .i64 0, .int .i64 0], .iface 113 (.pointer (some ⟨w4.heap.size, 0, none⟩))]) (results_row2 rfl _ _ w.heap.size 29 #[.slice none 0 0, .slice none 0 0, .slice none 0 0, .slice none 0 0, .string ⟨#[]⟩, .slice none 0 0, .slice none 0 0, .slice none 0 0, .slice none 0 0, .slice none 0 0, .int .i64 0, .int .i64 0] (0, 0) _ _ rfl rfl (row_has (ys := [.slice none 0 0, .slice none 0 0, .slice none 0 0, .slice none 0 0, .string ⟨#[]⟩, .slice none 0 0, .slice none 0 0, .slice none 0 0, .slice none 0 0, .slice none 0 0, .int .i64 0, .int .i64 0]) HB5) Tryz.underlying29 rfl (by kernel_rfl)) rfl ?_
        exact NO.out
end Go.Proofs.YtaogegeidbclaaaGreatDoor
