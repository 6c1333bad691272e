/- The program's reader: an image. -/
import Derived.Test.YtaogegeidbclaaaGreatDoorImgRdG
namespace Go.Proofs.YtaogegeidbclaaaGreatDoor
open Go.RowKit

/-- What stands behind the mark. -/
def Pc.body (x : Img) : Pc := Pc.list Pc.fc x.faces ++ Pc.list Pc.desc x.classes ++ Pc.list Pc.cod x.codes ++ Pc.ints x.insts ++ Pc.text x.globals ++ Pc.ints x.init ++ Pc.ints x.blocks ++ Pc.list Pc.lnk x.ins ++ Pc.list Pc.lnk x.outs ++ Pc.list Pc.op x.jobs ++ Pc.num x.d ++ Pc.num x.w
theorem Pc.img_body (x : Img) : Pc.img x = Pc.text Pc.mark ++ Pc.body x := by simp only [Pc.img, Pc.body, Pc.two, Pc.assoc]
set_option maxRecDepth 100000 in
set_option maxHeartbeats 2000000 in
theorem image_el (p : Nat) (s : St) (w : World) (h : Rd.Is w 92 p s) :
    Calls Tryz.prog 44 #[.pointer (some ⟨p, 0, none⟩)] w fun e w' => Eld Pc.body Img.eqb Img.Small Img.At (fun v => .agg #[.slice v.fA v.faces.length v.fc, .slice v.cA v.classes.length v.cc, .slice v.dA v.codes.length v.dc, .slice v.nA v.insts.length v.nc, .string v.globals, .slice v.iA v.init.length v.ic, .slice v.bA v.blocks.length v.bc, .slice v.xA v.ins.length v.xc, .slice v.oA v.outs.length v.oc, .slice v.jA v.jobs.length v.jc, .int .i64 v.d, .int .i64 v.w]) 92 p s w e w' := by
  have hpw := h.lt
  have i0 : Rd.Is (w.alloc (.cells #[.slice none 0 0, .slice none 0 0, .slice none 0 0, .slice none 0 0, .string ⟨#[]⟩, .slice none 0 0, .slice none 0 0, .slice none 0 0, .slice none 0 0, .slice none 0 0, .int .i64 0, .int .i64 0] 29)) 92 p s := h.low ((Below.refl _ w).alloc (by omega) _)
  have K0 : Hid (Keep p w (w.alloc (.cells #[.slice none 0 0, .slice none 0 0, .slice none 0 0, .slice none 0 0, .string ⟨#[]⟩, .slice none 0 0, .slice none 0 0, .slice none 0 0, .slice none 0 0, .slice none 0 0, .int .i64 0, .int .i64 0] 29))) := Aid.hid (Keep.of_below ((Below.refl _ w).alloc (Nat.le_refl _) _))
  have HB := Aid.hid (Aid.Has.new w [.slice none 0 0, .slice none 0 0, .slice none 0 0, .slice none 0 0, .string ⟨#[]⟩, .slice none 0 0, .slice none 0 0, .slice none 0 0, .slice none 0 0, .slice none 0 0, .int .i64 0, .int .i64 0] 29)
  have Z0 : Hid (w.heap.size + 1 ≤ (w.alloc (.cells #[.slice none 0 0, .slice none 0 0, .slice none 0 0, .slice none 0 0, .string ⟨#[]⟩, .slice none 0 0, .slice none 0 0, .slice none 0 0, .slice none 0 0, .slice none 0 0, .int .i64 0, .int .i64 0] 29)).heap.size) := Aid.hid (by rw [World.size_alloc]; exact Nat.le_refl _)
  have hmf : ∀ (fn : Fn) (first cap : Array Value) (w : World), (Instr.makeFunc fn first cap).run Tryz.prog w = .ok (.func fn first cap) w := fun _ _ _ _ => rfl
  have HC := Aid.hid (all_fc p s (w.alloc (.cells #[.slice none 0 0, .slice none 0 0, .slice none 0 0, .slice none 0 0, .string ⟨#[]⟩, .slice none 0 0, .slice none 0 0, .slice none 0 0, .slice none 0 0, .slice none 0 0, .int .i64 0, .int .i64 0] 29)) i0)
  clear h i0
  go_enter Tryz.func44, Tryz.ntmps44
  try simp only [List.append_eq, List.cons_append, List.nil_append]
  go_wp2_with fail
  go_at_call 79
  refine HC.out.mono ?_
  rintro e w1 ⟨A1, c1, v1, s1, rfl, a1, d1, b1, I1, k1, g1⟩
  clear HC
  have K1 := Aid.hid k1
  have G1 := Aid.hid g1
  have Z1 : Hid (w.heap.size + 1 ≤ w1.heap.size) := Aid.hid (Nat.le_trans Z0.out k1.size)
  have N1 := Aid.hid a1
  have D1 := Aid.hid d1
  have P1 := Aid.hid b1
  have HC := Aid.hid (all_desc p s1 w1 I1)
  clear I1 k1 g1 a1 b1 d1
  go_wp2_with fail
  go_at_call 81
  refine HC.out.mono ?_
  rintro e w2 ⟨A2, c2, v2, s2, rfl, a2, d2, b2, I2, k2, g2⟩
  clear HC
  have K2 := Aid.hid k2
  have G2 := Aid.hid g2
  have Z2 : Hid (w.heap.size + 1 ≤ w2.heap.size) := Aid.hid (Nat.le_trans Z1.out k2.size)
  have N2 := Aid.hid a2
  have D2 := Aid.hid d2
  have P2 := Aid.hid b2
  have HC := Aid.hid (all_cod p s2 w2 I2)
  clear I2 k2 g2 a2 b2 d2
  go_wp2_with fail
  go_at_call 83
  refine HC.out.mono ?_
  rintro e w3 ⟨A3, c3, v3, s3, rfl, a3, d3, b3, I3, k3, g3⟩
  clear HC
  have K3 := Aid.hid k3
  have G3 := Aid.hid g3
  have Z3 : Hid (w.heap.size + 1 ≤ w3.heap.size) := Aid.hid (Nat.le_trans Z2.out k3.size)
  have N3 := Aid.hid a3
  have D3 := Aid.hid d3
  have P3 := Aid.hid b3
  have HC := Aid.hid (nums_is p s3 w3 I3)
  clear I3 k3 g3 a3 b3 d3
  go_wp2_with fail
  go_at_call 85
  refine HC.out.mono ?_
  rintro e w4 ⟨A4, c4, v4, s4, rfl, a4, d4, b4, I4, k4, g4⟩
  clear HC
  have K4 := Aid.hid k4
  have G4 := Aid.hid g4
  have Z4 : Hid (w.heap.size + 1 ≤ w4.heap.size) := Aid.hid (Nat.le_trans Z3.out k4.size)
  have N4 := Aid.hid a4
  have D4 := Aid.hid d4
  have P4 := Aid.hid b4
  have HC := Aid.hid (text_el p s4 w4 I4)
  clear I4 k4 g4 a4 b4 d4
  go_wp2_with fail
  go_at_call 43
  refine HC.out.mono ?_
  rintro e w5 ⟨v5, s5, rfl, a5, b5, I5, k5, g5⟩
  clear HC
  have K5 := Aid.hid k5
  have G5 := Aid.hid g5
  have Z5 : Hid (w.heap.size + 1 ≤ w5.heap.size) := Aid.hid (Nat.le_trans Z4.out k5.size)
  have N5 := Aid.hid a5
  have HC := Aid.hid (nums_is p s5 w5 I5)
  clear I5 k5 g5 a5 b5
  go_wp2_with fail
  go_at_call 85
  refine HC.out.mono ?_
  rintro e w6 ⟨A6, c6, v6, s6, rfl, a6, d6, b6, I6, k6, g6⟩
  clear HC
  have K6 := Aid.hid k6
  have G6 := Aid.hid g6
  have Z6 : Hid (w.heap.size + 1 ≤ w6.heap.size) := Aid.hid (Nat.le_trans Z5.out k6.size)
  have N6 := Aid.hid a6
  have D6 := Aid.hid d6
  have P6 := Aid.hid b6
  have HC := Aid.hid (nums_is p s6 w6 I6)
  clear I6 k6 g6 a6 b6 d6
  go_wp2_with fail
  go_at_call 85
  refine HC.out.mono ?_
  rintro e w7 ⟨A7, c7, v7, s7, rfl, a7, d7, b7, I7, k7, g7⟩
  clear HC
  have K7 := Aid.hid k7
  have G7 := Aid.hid g7
  have Z7 : Hid (w.heap.size + 1 ≤ w7.heap.size) := Aid.hid (Nat.le_trans Z6.out k7.size)
  have N7 := Aid.hid a7
  have D7 := Aid.hid d7
  have P7 := Aid.hid b7
  have HC := Aid.hid (all_lnk p s7 w7 I7)
  clear I7 k7 g7 a7 b7 d7
  go_wp2_with fail
  go_at_call 86
  refine HC.out.mono ?_
  rintro e w8 ⟨A8, c8, v8, s8, rfl, a8, d8, b8, I8, k8, g8⟩
  clear HC
  have K8 := Aid.hid k8
  have G8 := Aid.hid g8
  have Z8 : Hid (w.heap.size + 1 ≤ w8.heap.size) := Aid.hid (Nat.le_trans Z7.out k8.size)
  have N8 := Aid.hid a8
  have D8 := Aid.hid d8
  have P8 := Aid.hid b8
  have HC := Aid.hid (all_lnk p s8 w8 I8)
  clear I8 k8 g8 a8 b8 d8
  go_wp2_with fail
  go_at_call 86
  refine HC.out.mono ?_
  rintro e w9 ⟨A9, c9, v9, s9, rfl, a9, d9, b9, I9, k9, g9⟩
  clear HC
  have K9 := Aid.hid k9
  have G9 := Aid.hid g9
  have Z9 : Hid (w.heap.size + 1 ≤ w9.heap.size) := Aid.hid (Nat.le_trans Z8.out k9.size)
  have N9 := Aid.hid a9
  have D9 := Aid.hid d9
  have P9 := Aid.hid b9
  have HC := Aid.hid (all_job p s9 w9 I9)
  clear I9 k9 g9 a9 b9 d9
  go_wp2_with fail
  go_at_call 88
  refine HC.out.mono ?_
  rintro e w10 ⟨A10, c10, v10, s10, rfl, a10, d10, b10, I10, k10, g10⟩
  clear HC
  have K10 := Aid.hid k10
  have G10 := Aid.hid g10
  have Z10 : Hid (w.heap.size + 1 ≤ w10.heap.size) := Aid.hid (Nat.le_trans Z9.out k10.size)
  have N10 := Aid.hid a10
  have D10 := Aid.hid d10
  have P10 := Aid.hid b10
  have HC := Aid.hid (num_el p s10 w10 I10)
  clear I10 k10 g10 a10 b10 d10
  go_wp2_with fail
  go_at_call 90
  refine HC.out.mono ?_
  rintro e w11 ⟨v11, s11, rfl, a11, b11, I11, k11, g11⟩
  clear HC
  have K11 := Aid.hid k11
  have G11 := Aid.hid g11
  have Z11 : Hid (w.heap.size + 1 ≤ w11.heap.size) := Aid.hid (Nat.le_trans Z10.out k11.size)
  have N11 := Aid.hid a11
  have HC := Aid.hid (num_el p s11 w11 I11)
  clear I11 k11 g11 a11 b11
  go_wp2_with fail
  go_at_call 90
  refine HC.out.mono ?_
  rintro e w12 ⟨v12, s12, rfl, a12, b12, I12, k12, g12⟩
  clear HC
  have K12 := Aid.hid k12
  have G12 := Aid.hid g12
  have Z12 : Hid (w.heap.size + 1 ≤ w12.heap.size) := Aid.hid (Nat.le_trans Z11.out k12.size)
  have N12 := Aid.hid a12
  have HI := Aid.hid I12
  clear I12 k12 g12 a12 b12
  have KA : Hid (Keep p w w12) := Aid.hid (((((((((((((K0.out.trans K1.out).trans K2.out).trans K3.out).trans K4.out).trans K5.out).trans K6.out).trans K7.out).trans K8.out).trans K9.out).trans K10.out).trans K11.out).trans K12.out))
  have HBm : w12.heap[w.heap.size]? = some (.cells #[.slice none 0 0, .slice none 0 0, .slice none 0 0, .slice none 0 0, .string ⟨#[]⟩, .slice none 0 0, .slice none 0 0, .slice none 0 0, .slice none 0 0, .slice none 0 0, .int .i64 0, .int .i64 0] 29 (0, 0)) := by
    exact ((((((((((((K1.out.trans K2.out).trans K3.out).trans K4.out).trans K5.out).trans K6.out).trans K7.out).trans K8.out).trans K9.out).trans K10.out).trans K11.out).trans K12.out)).has (by omega) HB.out
  go_wp2_with (refine wpList_store_row rfl 29 _ _ rfl w.heap.size #[.slice A1 v1.length c1, .slice A2 v2.length c2, .slice A3 v3.length c3, .slice A4 v4.length c4, .string v5, .slice A6 v6.length c6, .slice A7 v7.length c7, .slice A8 v8.length c8, .slice A9 v9.length c9, .slice A10 v10.length c10, .int .i64 v11, .int .i64 v12] rfl rfl 29 #[.slice none 0 0, .slice none 0 0, .slice none 0 0, .slice none 0 0, .string ⟨#[]⟩, .slice none 0 0, .slice none 0 0, .slice none 0 0, .slice none 0 0, .slice none 0 0, .int .i64 0, .int .i64 0] HBm (by kernel_rfl) rfl (by simp [Value.oneCell']) ?_)
  have HR : Aid.Has (w12.setRow w.heap.size #[.slice A1 v1.length c1, .slice A2 v2.length c2, .slice A3 v3.length c3, .slice A4 v4.length c4, .string v5, .slice A6 v6.length c6, .slice A7 v7.length c7, .slice A8 v8.length c8, .slice A9 v9.length c9, .slice A10 v10.length c10, .int .i64 v11, .int .i64 v12]) w.heap.size [.slice A1 v1.length c1, .slice A2 v2.length c2, .slice A3 v3.length c3, .slice A4 v4.length c4, .string v5, .slice A6 v6.length c6, .slice A7 v7.length c7, .slice A8 v8.length c8, .slice A9 v9.length c9, .slice A10 v10.length c10, .int .i64 v11, .int .i64 v12] 29 := row_has (ys := [.slice A1 v1.length c1, .slice A2 v2.length c2, .slice A3 v3.length c3, .slice A4 v4.length c4, .string v5, .slice A6 v6.length c6, .slice A7 v7.length c7, .slice A8 v8.length c8, .slice A9 v9.length c9, .slice A10 v10.length c10, .int .i64 v11, .int .i64 v12]) HBm
  refine bodyPost_ret (v := .agg #[.slice A1 v1.length c1, .slice A2 v2.length c2, .slice A3 v3.length c3, .slice A4 v4.length c4, .string v5, .slice A6 v6.length c6, .slice A7 v7.length c7, .slice A8 v8.length c8, .slice A9 v9.length c9, .slice A10 v10.length c10, .int .i64 v11, .int .i64 v12]) (results_cell_row rfl _ _ w.heap.size 29 #[.slice A1 v1.length c1, .slice A2 v2.length c2, .slice A3 v3.length c3, .slice A4 v4.length c4, .string v5, .slice A6 v6.length c6, .slice A7 v7.length c7, .slice A8 v8.length c8, .slice A9 v9.length c9, .slice A10 v10.length c10, .int .i64 v11, .int .i64 v12] (0, 0) _ rfl HR Tryz.underlying29 rfl (by kernel_rfl)) rfl ?_
  exact ⟨⟨A1, v1, c1, A2, v2, c2, A3, v3, c3, A4, v4, c4, v5, A6, v6, c6, A7, v7, c7, A8, v8, c8, A9, v9, c9, A10, v10, c10, v11, v12⟩, s12, rfl, ⟨⟨N1.out, D1.out⟩, ⟨N2.out, D2.out⟩, ⟨N3.out, D3.out⟩, N4.out, N5.out, N6.out, N7.out, N8.out, N9.out, N10.out⟩, ⟨(P1.out.kc (kc_got ((((((((((K2.out.trans K3.out).trans K4.out).trans K5.out).trans K6.out).trans K7.out).trans K8.out).trans K9.out).trans K10.out).trans K11.out).trans K12.out) hpw Z0.out _) (by rw [row_size]; exact ((((((((((K2.out.trans K3.out).trans K4.out).trans K5.out).trans K6.out).trans K7.out).trans K8.out).trans K9.out).trans K10.out).trans K11.out).trans K12.out).size)), (P2.out.kc (kc_got (((((((((K3.out.trans K4.out).trans K5.out).trans K6.out).trans K7.out).trans K8.out).trans K9.out).trans K10.out).trans K11.out).trans K12.out) hpw Z1.out _) (by rw [row_size]; exact (((((((((K3.out.trans K4.out).trans K5.out).trans K6.out).trans K7.out).trans K8.out).trans K9.out).trans K10.out).trans K11.out).trans K12.out).size)), (P3.out.kc (kc_got ((((((((K4.out.trans K5.out).trans K6.out).trans K7.out).trans K8.out).trans K9.out).trans K10.out).trans K11.out).trans K12.out) hpw Z2.out _) (by rw [row_size]; exact ((((((((K4.out.trans K5.out).trans K6.out).trans K7.out).trans K8.out).trans K9.out).trans K10.out).trans K11.out).trans K12.out).size)), (P4.out.kc (kc_got (((((((K5.out.trans K6.out).trans K7.out).trans K8.out).trans K9.out).trans K10.out).trans K11.out).trans K12.out) hpw Z3.out _) (by rw [row_size]; exact (((((((K5.out.trans K6.out).trans K7.out).trans K8.out).trans K9.out).trans K10.out).trans K11.out).trans K12.out).size)), (P6.out.kc (kc_got (((((K7.out.trans K8.out).trans K9.out).trans K10.out).trans K11.out).trans K12.out) hpw Z5.out _) (by rw [row_size]; exact (((((K7.out.trans K8.out).trans K9.out).trans K10.out).trans K11.out).trans K12.out).size)), (P7.out.kc (kc_got ((((K8.out.trans K9.out).trans K10.out).trans K11.out).trans K12.out) hpw Z6.out _) (by rw [row_size]; exact ((((K8.out.trans K9.out).trans K10.out).trans K11.out).trans K12.out).size)), (P8.out.kc (kc_got (((K9.out.trans K10.out).trans K11.out).trans K12.out) hpw Z7.out _) (by rw [row_size]; exact (((K9.out.trans K10.out).trans K11.out).trans K12.out).size)), (P9.out.kc (kc_got ((K10.out.trans K11.out).trans K12.out) hpw Z8.out _) (by rw [row_size]; exact ((K10.out.trans K11.out).trans K12.out).size)), (P10.out.kc (kc_got (K11.out.trans K12.out) hpw Z9.out _) (by rw [row_size]; exact (K11.out.trans K12.out).size))⟩, Eld.keepRow HI.out (by omega) _, KA.out.row (Nat.le_refl _) _, Got.of (((((((((((((G1.out.map (fun v : Img => v.faces)).seq (G2.out.map (fun v : Img => v.classes))).seq (G3.out.map (fun v : Img => v.codes))).seq (G4.out.map (fun v : Img => v.insts))).seq (G5.out.map (fun v : Img => v.globals))).seq (G6.out.map (fun v : Img => v.init))).seq (G7.out.map (fun v : Img => v.blocks))).seq (G8.out.map (fun v : Img => v.ins))).seq (G9.out.map (fun v : Img => v.outs))).seq (G10.out.map (fun v : Img => v.jobs))).seq (G11.out.map (fun v : Img => v.d))).seq (G12.out.map (fun v : Img => v.w)))) (fun v => rfl) (fun v h => by simp only [Img.eqb, Img.eqN, Img.eqT, Img.eqL, Int.eqb, Txt.eqb, Bool.and_eq_true, decide_eq_true_eq] at h ⊢; obtain ⟨⟨⟨⟨⟨⟨⟨⟨⟨⟨⟨h1, h2⟩, h3⟩, h4⟩, h5⟩, h6⟩, h7⟩, h8⟩, h9⟩, h10⟩, h11⟩, h12⟩ := h; exact ⟨⟨⟨⟨⟨⟨h1, ⟨⟨h4, h5⟩, h6⟩, h7⟩, ⟨h8, h9⟩, h10⟩, h2⟩, h3⟩, h11⟩, h12⟩)⟩
end Go.Proofs.YtaogegeidbclaaaGreatDoor
