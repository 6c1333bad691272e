/- GreatUnit, as a walk. -/
import Derived.Test.YtmhdcehpddbjaaaGreatS
import Derived.Deep.QuietTactic
import Derived.BigQuiet
import Derived.Deep.Cut
namespace Go.Proofs.Ytmhdcehpddbjaaa
open Go.RowKit

set_option maxRecDepth 100000 in
set_option maxHeartbeats 4000000 in
theorem greatUnit3_big (a : Option Addr) (n cap : Nat) (w : World) (hn : 16 < n) :
    Calls Try.prog 9 #[.agg #[.slice a n cap], .int .i64 300] w fun e w' => e = .returned (.bool true) ∧ Below w.heap.size w w' := by
  have hb1 : Below w.heap.size w (w.alloc (.cells #[.slice a n cap] 24)) := (Below.refl _ _).alloc (Nat.le_refl _) _
  have h16 : decide ((n : Int) ≤ 16) = false := decide_eq_false (by omega)
  have h17 : decide ((16 : Int) < (n : Int)) = true := decide_eq_true (by omega)
  have h0 : decide ((0 : Int) < (n : Int)) = true := decide_eq_true (by omega)
  go_enter Try.func9, Try.ntmps9
  try simp only [List.append_eq, List.cons_append, List.nil_append]
  go_wp2_with fail
  go_loopw [5, 6] (fun vn vi wr => vn = .int .i64 0 ∧ vi = .int .i64 0 ∧ wr = (w.alloc (.cells #[.slice a n cap] 24))) (fun _ _ _ => 0)
  case atStart => exact ⟨rfl, rfl, rfl⟩
  case round =>
    obtain ⟨rfl, rfl, rfl⟩ := hrel
    go_wp2_with fail
    go_ret
    exact ⟨rfl, hb1⟩

theorem below_drewN_k {B : Nat} {a w : World} (h : Below B a w) (n : Nat) : Below B a (w.drewN n) := ⟨h.os, h.tape, h.output, h.size, h.block⟩
theorem below_drewN_ {w : World} {B : Nat} (n : Nat) : Below B w (w.drewN n) := ⟨rfl, rfl, rfl, Nat.le_refl _, fun _ _ => rfl⟩
theorem vars_q (A : Option Addr) (B cap : Nat) (ps : List Vd) (m r : Int) (w : World) (hr : Gr.vars ps m = r) (h : Rows w B 8 A (ps.map Vd.cells)) (hl : ps.length ≤ 9223372036854775807) (k : Nat) :
    Calls Try.prog 27 #[.slice A ps.length cap, .int .i64 m] (w.drewN k) fun e w'' => e = .returned (.int .i64 r) ∧ ∃ m, w'' = w.drewN m := by
  refine (vars_is A B cap ps m r (w.drewN k) hr (h.keep fun _ _ => rfl) hl).mono ?_
  rintro e w' ⟨h1, rfl⟩
  exact ⟨h1, k, rfl⟩
theorem stmts_q (f : Nat) (A : Option Addr) (B cap : Nat) (l : List St) (m r : Int) (w : World) (hr : stmtsGo l m 0 = r) (h : StsAt f w B A l) (k : Nat) :
    Calls Try.prog 28 #[.slice A l.length cap, .int .i64 m] (w.drewN k) fun e w'' => e = .returned (.int .i64 r) ∧ ∃ m, w'' = w.drewN m := by
  refine (stmts_is f A B cap l m r (w.drewN k) hr (h.below (below_drewN_ k) (Nat.le_refl B))).mono ?_
  rintro e w' ⟨h1, rfl⟩
  exact ⟨h1, k, rfl⟩
def Gr.Told (w : World) (e : Ending) (w' : World) : Prop := ∃ r, e = .returned (.bool r) ∧ Below w.heap.size w w'
set_option maxRecDepth 100000 in
set_option maxHeartbeats 4000000 in
theorem greatUnit3_is (u : List Dk) (a : Option Addr) (B cap : Nat) (w : World) (hu : UnitAt w B a u) (hB : B ≤ w.heap.size) (hn : u.length ≤ 16) :
    Calls Try.prog 9 #[.agg #[.slice a u.length cap], .int .i64 300] w fun e w' => Gr.Told w e w' := by
  have HU := Aid.hid hu
  have hb1 : Below w.heap.size w (w.alloc (.cells #[.slice a u.length cap] 24)) := (Below.refl _ _).alloc (Nat.le_refl _) _
  have P0 := Aid.Has.new w [.slice a u.length cap] 24
  have h16 : decide ((u.length : Int) ≤ 16) = true := decide_eq_true (by omega)
  have h17 : decide ((16 : Int) < (u.length : Int)) = false := decide_eq_false (by omega)
  clear hu
  go_enter Try.func9, Try.ntmps9
  try simp only [List.append_eq, List.cons_append, List.nil_append]
  go_wp2_with fail
  obtain ⟨pb, hpb⟩ : ∃ pb, w.heap.size = pb := ⟨_, rfl⟩
  rw [hpb] at P0 ⊢
  generalize w.alloc (.cells #[.slice a u.length cap] 24) = W at *
  have HB1 := Aid.hid hb1
  have HP := Aid.hid P0
  have hpl := P0.lt
  clear hb1 P0
  clear hpb
  go_loopw [5, 6] (fun vn vi wr => ∃ (k : Nat) (n : Int), vn = .int .i64 n ∧ vi = .int .i64 k ∧ k ≤ u.length ∧ Hid (Below W.heap.size W wr)) (fun _ vi _ => u.length - (intOf vi).toNat)
  case atStart => exact ⟨0, 0, rfl, rfl, Nat.zero_le _, Aid.hid (Below.refl _ _)⟩
  case round =>
    obtain ⟨k, n, rfl, rfl, hk, HB⟩ := hrel
    have p0 := (HP.out.below HB.out hpl).cell 0 _ rfl
    have hpr : pb < wr.heap.size := Nat.lt_of_lt_of_le hpl HB.out.size
    by_cases hkl : k < u.length
    · by_cases hnm : n ≤ 300
      · obtain ⟨d, hd⟩ : ∃ d, u[k]? = some d := ⟨_, List.getElem?_eq_getElem hkl⟩
        have HD := Aid.hid hd
        obtain ⟨b, off, ha, hbB, hc⟩ := (HU.out.below (HB1.out.trans (HB.out.mono HB1.out.size)) hB).at_ (by omega)
        subst ha
        have c0 := hc k d hd 0 _ rfl
        have c1 := hc k d hd 1 _ rfl
        have c2 := hc k d hd 2 _ rfl
        have c3 := hc k d hd 3 _ rfl
        have c4 := hc k d hd 4 _ rfl
        have c5 := hc k d hd 5 _ rfl
        have c6 := hc k d hd 6 _ rfl
        have c7 := hc k d hd 7 _ rfl
        have c8 := hc k d hd 8 _ rfl
        have c9 := hc k d hd 9 _ rfl
        have c10 := hc k d hd 10 _ rfl
        simp only [Nat.add_zero] at c0
        clear hc hd
        have HDat := Aid.hid (HU.out.decls d (List.mem_of_getElem? HD.out))
        have HBB : Hid (Below w.heap.size w wr) := Aid.hid (HB1.out.trans (HB.out.mono HB1.out.size))
        go_upto_region 6 with (fail)
        refine Aid.wp_abs (fun w' => Below W.heap.size W w' ∧ Aid.Has w' wr.heap.size [.int .i64 d.kind, .string d.name, .string d.base, .slice d.fA d.faces.length d.fc, .bool d.abs, .bool d.fin, .slice d.vA d.vs.length d.vc, .slice d.mA d.ms.length d.mc, .slice d.bA d.body.length d.bc, .int .i64 d.every, .int .i64 d.first] 48) ?_ ?_
        · constructor
          · repeat' (first | exact HB.out | refine Below.drew ?_ | refine Below.alloc ?_ ?_ _ | exact HB.out.size | (simp; done) | (simp; omega))
          · repeat' (first | exact Aid.Has.new _ _ _ | refine Aid.Has.drew ?_ | refine Aid.Has.alloc ?_ _)
        clear c0 c1 c2 c3 c4 c5 c6 c7 c8 c9 c10 p0
        rintro w2 ⟨hb2, hd2⟩
        have HB2 := Aid.hid hb2
        have HD2 := Aid.hid hd2
        have hql := hd2.lt
        generalize wr.heap.size = q at hpr HD2 hql hd2 ⊢
        have d1 := hd2.cell 1 _ rfl; have d2 := hd2.cell 2 _ rfl; have d3 := hd2.cell 3 _ rfl; have d6 := hd2.cell 6 _ rfl; have d7 := hd2.cell 7 _ rfl; have d8 := hd2.cell 8 _ rfl
        clear hb2 hd2 hpr HB HBB
        have HU2 : Hid (DkAt w2 B d) := Aid.hid (HDat.out.below (HB1.out.trans (HB2.out.mono HB1.out.size)) hB)
        obtain ⟨r1, hr1⟩ : ∃ r, decide ((60 : Int) < (d.name.size : Int)) = r := ⟨_, rfl⟩
        obtain ⟨r2, hr2⟩ : ∃ r, decide ((60 : Int) < (d.base.size : Int)) = r := ⟨_, rfl⟩
        cases r1
        · cases r2
          · go_wp2_with fail
            obtain ⟨r3, hr3⟩ : ∃ r, Gr.texts d.faces 8 60 = r := ⟨_, rfl⟩
            refine (greatTexts_is d.fA B d.fc d.faces 8 60 r3 _ hr3 HU2.out.faces HU2.out.smallF).mono ?_; rintro e w' ⟨rfl, rfl⟩
            clear hr3
            cases r3
            · go_wp2_with fail
              obtain ⟨n1, hn1⟩ : ∃ r, Gr.vars d.vs 300 = r := ⟨_, rfl⟩
              obtain ⟨fu, hfu⟩ := HU2.out.body
              obtain ⟨n2, hn2⟩ : ∃ r, stmtsGo d.body (wrap64 (300 - n)) 0 = r := ⟨_, rfl⟩
              have CV := vars_q d.vA B d.vc d.vs 300 n1 w2 hn1 HU2.out.vars HU2.out.smallV
              have CS := stmts_q fu d.bA B d.bc d.body (wrap64 (300 - n)) n2 w2 hn2 hfu
              clear hn1 hn2 hfu
              go_quiet (first | (go_at_call 27; refine CV _) | (go_at_call 28; refine CS _))
              have HB3 : Hid (Below W.heap.size W (w2.drewN nq)) := Aid.hid (below_drewN_k HB2.out nq)
              have HD3 : Hid (Aid.Has (w2.drewN nq) q [.int .i64 d.kind, .string d.name, .string d.base, .slice d.fA d.faces.length d.fc, .bool d.abs, .bool d.fin, .slice d.vA d.vs.length d.vc, .slice d.mA d.ms.length d.mc, .slice d.bA d.body.length d.bc, .int .i64 d.every, .int .i64 d.first] 48) := HD2
              have hql3 : q < (w2.drewN nq).heap.size := hql
              have HU3 : Hid (DkAt (w2.drewN nq) B d) := Aid.hid (HU2.out.below (below_drewN_ nq) (Nat.le_refl B))
              have hBq : B ≤ (w2.drewN nq).heap.size := Nat.le_trans hB (Nat.le_trans HB1.out.size HB3.out.size)
              clear CV CS d1 d2 d3 d6 d7 d8 HD2 HB2 HU2 hql
              generalize w2.drewN nq = w3 at HB3 HD3 hql3 HU3 hBq ⊢
              go_wp2_with fail
              go_loopw [5, 8] (fun vn vi wi => ∃ (i : Nat) (n' : Int), vn = .int .i64 n' ∧ vi = .int .i64 i ∧ i ≤ d.ms.length ∧ Hid (Below w3.heap.size w3 wi)) (fun _ vi _ => d.ms.length - (intOf vi).toNat)
              case atStart => exact ⟨0, _, rfl, rfl, Nat.zero_le _, Aid.hid (Below.refl _ _)⟩
              case round =>
                obtain ⟨i, n', rfl, rfl, hi, HBi⟩ := hrel
                have e7 := (HD3.out.below HBi.out hql3).cell 7 _ rfl
                have smM := HU3.out.smallM
                have hqi : q < wr.heap.size := Nat.lt_of_lt_of_le hql3 HBi.out.size
                by_cases hil : i < d.ms.length
                · by_cases hnm' : n' ≤ 300
                  · obtain ⟨m, hm⟩ : ∃ m, d.ms[i]? = some m := ⟨_, List.getElem?_eq_getElem hil⟩
                    obtain ⟨mb, mo, hmA, hmb, hmc⟩ := (HU3.out.below HBi.out hBq).meth (by omega)
                    rw [hmA] at e7
                    clear hmA
                    have m0 := hmc i m hm 0 _ rfl
                    have m1 := hmc i m hm 1 _ rfl
                    have m2 := hmc i m hm 2 _ rfl
                    have m3 := hmc i m hm 3 _ rfl
                    have m4 := hmc i m hm 4 _ rfl
                    have m5 := hmc i m hm 5 _ rfl
                    have m6 := hmc i m hm 6 _ rfl
                    have m7 := hmc i m hm 7 _ rfl
                    have m8 := hmc i m hm 8 _ rfl
                    have m9 := hmc i m hm 9 _ rfl
                    have m10 := hmc i m hm 10 _ rfl
                    simp only [Nat.add_zero] at m0
                    have HMat := Aid.hid (HU3.out.each m (List.mem_of_getElem? hm))
                    clear hmc hm
                    have hmb2 : mb < wr.heap.size := Nat.lt_of_lt_of_le hmb (Nat.le_trans hBq HBi.out.size)
                    go_upto_region 13 with (fail)
                    refine Aid.wp_abs (fun w' => Below w3.heap.size w3 w' ∧ Aid.Has w' wr.heap.size [.string m.name, .bool m.over, .bool m.abs, .bool m.fin, .slice m.pA m.ps.length m.pc, .int .i64 m.res.k, .int .i64 m.res.lo, .int .i64 m.res.hi, .string m.res.name, .slice m.vA m.vs.length m.vc, .slice m.bA m.body.length m.bc] 50) ?_ ?_
                    · constructor
                      · repeat' (first | exact HBi.out | refine Below.drew ?_ | refine Below.alloc ?_ ?_ _ | exact HBi.out.size | (simp; done) | (simp; omega))
                      · repeat' (first | exact Aid.Has.new _ _ _ | refine Aid.Has.drew ?_ | refine Aid.Has.alloc ?_ _)
                    clear m0 m1 m2 m3 m4 m5 m6 m7 m8 m9 m10 e7
                    rintro w4 hm4
                    have HM := Aid.hid hm4
                    have hml := hm4.2.lt
                    obtain ⟨hb4, hd4⟩ := hm4
                    generalize wr.heap.size = qm at hd4 hml HM hqi hmb2 ⊢
                    have f0 := hd4.cell 0 _ rfl; have f4 := hd4.cell 4 _ rfl; have f8 := hd4.cell 8 _ rfl; have f9 := hd4.cell 9 _ rfl; have f10 := hd4.cell 10 _ rfl
                    have HM4 : Hid (MdAt w4 B m) := Aid.hid (HMat.out.below hb4 hBq)
                    clear hb4 hd4 HBi
                    obtain ⟨r4, hr4⟩ : ∃ r, decide ((60 : Int) < (m.name.size : Int)) = r := ⟨_, rfl⟩
                    obtain ⟨r5, hr5⟩ : ∃ r, decide ((60 : Int) < (m.res.name.size : Int)) = r := ⟨_, rfl⟩
                    cases r4
                    · cases r5
                      · go_wp2_with fail
                        obtain ⟨fu2, hfu2⟩ := HM4.out.body
                        have CP := vars_q m.pA B m.pc m.ps 300 _ w4 rfl HM4.out.params HM4.out.smallP
                        have CV := vars_q m.vA B m.vc m.vs 300 _ w4 rfl HM4.out.vars HM4.out.smallV
                        have CS := stmts_q fu2 m.bA B m.bc m.body (wrap64 (300 - n')) _ w4 rfl hfu2
                        clear hfu2
                        generalize Gr.vars m.ps 300 = n4 at CP
                        generalize Gr.vars m.vs 300 = n5 at CV
                        generalize stmtsGo m.body (wrap64 (300 - n')) 0 = n6 at CS
                        go_quiet (first | (go_at_call 27; with_reducible refine CP _) | (go_at_call 27; with_reducible refine CV _) | (go_at_call 28; refine CS _))
                        have HB5 : Hid (Below w3.heap.size w3 (w4.drewN nq)) := Aid.hid (below_drewN_k HM.out.1 nq)
                        clear CP CV CS f0 f4 f8 f9 f10 HM HM4
                        generalize w4.drewN nq = w5 at HB5 ⊢
                        go_wp2_with fail
                        go_roundw
                        case rel => exact ⟨i + 1, _, rfl, by go_num, by omega, HB5⟩
                        case measure => simp [intOf]; omega
                      · go_wp2_with fail
                        go_ret
                        exact ⟨_, rfl, HB1.out.trans ((HB3.out.trans (HM.out.1.mono HB3.out.size)).mono HB1.out.size)⟩
                    · go_wp2_with fail
                      go_ret
                      exact ⟨_, rfl, HB1.out.trans ((HB3.out.trans (HM.out.1.mono HB3.out.size)).mono HB1.out.size)⟩
                  · have hnm2 : decide (n' ≤ 300) = false := by simpa using hnm'
                    go_wp2_with fail
                    go_roundw
                    case rel => exact ⟨k + 1, _, rfl, by go_num, by omega, Aid.hid (HB3.out.trans (HBi.out.mono HB3.out.size))⟩
                    case measure => simp [intOf]; omega
                · obtain rfl : i = d.ms.length := by omega
                  go_wp2_with fail
                  go_roundw
                  case rel => exact ⟨k + 1, _, rfl, by go_num, by omega, Aid.hid (HB3.out.trans (HBi.out.mono HB3.out.size))⟩
                  case measure => simp [intOf]; omega
            · go_wp2_with fail
              go_ret
              exact ⟨_, rfl, HB1.out.trans (HB2.out.mono HB1.out.size)⟩
          · go_wp2_with fail
            go_ret
            exact ⟨_, rfl, HB1.out.trans (HB2.out.mono HB1.out.size)⟩
        · go_wp2_with fail
          go_ret
          exact ⟨_, rfl, HB1.out.trans (HB2.out.mono HB1.out.size)⟩
      · have hnm2 : decide (n ≤ 300) = false := by simpa using hnm
        have hnm3 : decide (300 < n) = true := by simpa using hnm
        go_wp2_with fail
        go_ret
        exact ⟨_, rfl, HB1.out.trans (HB.out.mono HB1.out.size)⟩
    · obtain rfl : k = u.length := by omega
      obtain ⟨r3, hr3⟩ : ∃ r, decide ((300 : Int) < n) = r := ⟨_, rfl⟩
      cases r3
      all_goals
        go_wp2_with fail
        go_ret
        exact ⟨_, rfl, HB1.out.trans (HB.out.mono HB1.out.size)⟩
end Go.Proofs.Ytmhdcehpddbjaaa
